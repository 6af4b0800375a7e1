-- What this claim does not use was left out by prune.py, a program of this session.
import Derived.Test.YteknbadjfojmbaaQA0
import Derived.Test.YteknbadjfojmbaaQA4
import Derived.Test.YteknbadjfojmbaaQA21
import Derived.Test.YteknbadjfojmbaaQA22
import Derived.Test.YteknbadjfojmbaaQA23
namespace Go.Proofs.Yteknbadjfojmbaa.QA
open Go.RowKit Go.Proofs.YteknbadjfojmbaaW.PrintWords Go.Proofs.YteknbadjfojmbaaW.PrintLast Go.Proofs.YteknbadjfojmbaaW.PrintMore
attribute [local go_sem] max2_int min2_int max_two min_two max_three min_three max_four min_four
set_option linter.unusedVariables false
set_option linter.unusedSimpArgs false
def clock_Sync.f (k : Nat) (a0_0 : Int) (l0_1 : List S58) (a1_0 a1_1 a1_2 : Int) : Option (Int × List S58 × Int) :=
  (clock_Check.f k a0_0 l0_1).bind fun t => if t = 0 then ((clock_instants.f [a1_0]).bind fun b => if b = true then ((clock_valid.f a1_1 a1_2).bind fun b2 => if b2 = true then
      (if 0 < l0_1.length ∧ a1_0 ≤ (rd_T58 l0_1 ((l0_1.length : Int) - 1)).f0 then some (0, [], 15) else
        ((clock_Now.f k a0_0 l0_1 a1_0).bind fun t2 => if t2.2.2 = 0 then
          ((clock_Join.f k a1_1 a1_2 t2.1 t2.2.1).bind fun t3 => if t3.2.2 = 0 then
            (if l0_1.length ≤ 16 then some (a0_0, (l0_1 ++ ([⟨a1_0, ⟨t3.1, t3.2.1⟩⟩] : List S58)).drop (l0_1.length + 1 - 16), 0) else none)
          else some (0, [], t3.2.2))
        else some (0, [], t2.2.2)))
      else some (0, [], 3)) else some (0, [], 3)) else some (0, [], t)
def clock_Sync.cc (a0_0 : Int) (A0_1 : Option Addr) (n c0_1 : Nat) : Obj := Obj.cells #[.int .i64 a0_0, .slice A0_1 n c0_1] 54 (0, 0)
def clock_Sync.cr (x y z : Int) : Obj := Obj.cells #[.int .i64 x, .int .i64 y, .int .i64 z] 58 (0, 0)
def clock_Sync.cz : Obj := Obj.cells #[.int .i64 0, .slice none 0 0] 54 (0, 0)
structure clock_Sync.Ok (w W : World) (gc gr gz : Nat) (a0_0 : Int) (A0_1 : Option Addr) (n c0_1 : Nat) (x y z : Int) : Prop where
  hb : Below w.heap.size w W
  gc : W.heap[gc]? = some (clock_Sync.cc a0_0 A0_1 n c0_1)
  gr : W.heap[gr]? = some (clock_Sync.cr x y z)
  gz : W.heap[gz]? = some clock_Sync.cz
theorem clock_Sync.Ok.step {w W W' : World} {gc gr gz : Nat} {a0_0 : Int} {A0_1 : Option Addr} {n c0_1 : Nat} {x y z : Int} (h : clock_Sync.Ok w W gc gr gz a0_0 A0_1 n c0_1 x y z) (hb : Below W.heap.size W W') : clock_Sync.Ok w W' gc gr gz a0_0 A0_1 n c0_1 x y z :=
  ⟨below_step h.hb hb, blk_below h.gc hb, blk_below h.gr hb, blk_below h.gz hb⟩
theorem clock_Sync.Ok.put {w W : World} {gc gr gz : Nat} {a0_0 : Int} {A0_1 : Option Addr} {n c0_1 : Nat} {x y z : Int} (h : clock_Sync.Ok w W gc gr gz a0_0 A0_1 n c0_1 x y z) (u v : Int) (h1 : gc ≠ gr) (h2 : gz ≠ gr) (h3 : w.heap.size ≤ gr) :
    clock_Sync.Ok w ((W.setCell ⟨gr, 1, none⟩ (.int .i64 u)).setCell ⟨gr, 2, none⟩ (.int .i64 v)) gc gr gz a0_0 A0_1 n c0_1 x u v :=
  ⟨below_set (below_set h.hb h3) h3, blk_far (blk_far h.gc (p := ⟨gr, 1, none⟩) h1 _) (p := ⟨gr, 2, none⟩) h1 _, blk_put (blk_put h.gr 1 _ rfl) 2 _ rfl, blk_far (blk_far h.gz (p := ⟨gr, 1, none⟩) h2 _) (p := ⟨gr, 2, none⟩) h2 _⟩
theorem clock_Sync.Ok.grown {w W W' : World} {gc gr gz B : Nat} {row : Option Nat} {a0_0 : Int} {A0_1 : Option Addr} {n c0_1 : Nat} {x y z : Int} (h : clock_Sync.Ok w W gc gr gz a0_0 A0_1 n c0_1 x y z) (hg : W.grownBy W' row) (h1 : gc < B) (h2 : gr < B) (h3 : gz < B) (h4 : B ≤ W.heap.size) (hr : ∀ k, row = some k → B ≤ k) (hw : w.heap.size ≤ B) :
    clock_Sync.Ok w W' gc gr gz a0_0 A0_1 n c0_1 x y z :=
  ⟨pw_below_grown h.hb row h.hb.size hg (fun k hk => Nat.le_trans hw (hr k hk)), (hg.block _ (blk_lt h.gc) (fun e => by have := hr _ e.symm; omega)).trans h.gc, (hg.block _ (blk_lt h.gr) (fun e => by have := hr _ e.symm; omega)).trans h.gr, (hg.block _ (blk_lt h.gz) (fun e => by have := hr _ e.symm; omega)).trans h.gz⟩
theorem clock_Sync.lit_ {W : World} {g : Nat} {x y z : Int} (h : W.heap[g]? = some (clock_Sync.cr x y z)) : ∀ (j : Nat) (u : Value), [Value.int .i64 x, .int .i64 y, .int .i64 z][j]? = some u → W.cell? ((⟨g, 0, none⟩ : Addr).add j) = some u := by
  intro j u hu
  have ha : (⟨g, 0, none⟩ : Addr).add j = ⟨g, j, none⟩ := by
    by_cases h0 : j = 0
    · subst h0; rfl
    · simp [Addr.add, h0]
  rw [ha]
  refine (blk_cell h j).trans ?_
  simpa using hu
section
variable {F : Fence} {n : Nat} {P : Program} {ops : Array Oper} {Q : Exit → Act → World → Prop} {md : Region.Mode} {S : World → Prop}
theorem wpAnyHI_two {i j m : Nat} {oi oj : Oper} {fuel : Nat} {listed : Array Bool} {a : Act} {w : World} (hF : ∀ f, F.fn f) (hi : ops[i]? = some oi) (hj : ops[j]? = some oj) (hr : ((Region.ready md ops listed == [i, j]) && i != m && j != m) = true)
    (h1 : ∀ K' : Act → World → Prop, (∀ a w, S w → wpAnyHI F n P md ops Q S m fuel (listed.setIfInBounds i true) a w → K' a w) → if Region.wanted oi (yielded ops a.tmps) = true then Oper.wpIn F n P oi a w K' Q else K' (a.put oi.dst undef) w)
    (h2 : ∀ K' : Act → World → Prop, (∀ a w, S w → wpAnyHI F n P md ops Q S m fuel (listed.setIfInBounds j true) a w → K' a w) → if Region.wanted oj (yielded ops a.tmps) = true then Oper.wpIn F n P oj a w K' Q else K' (a.put oj.dst undef) w) : wpAnyHI F n P md ops Q S m (fuel + 1) listed a w := by
  simp only [Bool.and_eq_true, beq_iff_eq, bne_iff_ne] at hr
  obtain ⟨⟨hr, him⟩, hjm⟩ := hr
  refine ⟨fun h0 => (by rw [hr] at h0; cases h0), ?_⟩
  rw [hr]
  intro k hk
  have hk2 : k = i ∨ k = j := by simpa using hk
  rcases hk2 with rfl | rfl
  · unfold wpOpIn
    rw [hi]
    simp only [if_neg him]
    have h3 := h1 (fun a' w' => S w' ∧ wpAnyHI F n P md ops Q S m fuel (listed.setIfInBounds k true) a' w') (fun a w hs hw => ⟨hs, hw⟩)
    split
    · rename_i hw; rw [if_pos hw] at h3; exact h3
    · rename_i hw; rw [if_neg hw] at h3; exact ⟨fun f _ => hF f, h3⟩
  · unfold wpOpIn
    rw [hj]
    simp only [if_neg hjm]
    have h3 := h2 (fun a' w' => S w' ∧ wpAnyHI F n P md ops Q S m fuel (listed.setIfInBounds k true) a' w') (fun a w hs hw => ⟨hs, hw⟩)
    split
    · rename_i hw; rw [if_pos hw] at h3; exact h3
    · rename_i hw; rw [if_neg hw] at h3; exact ⟨fun f _ => hF f, h3⟩
end
theorem clock_Sync.Ok.cells {w W : World} {gc gr gz : Nat} {a0_0 : Int} {A0_1 : Option Addr} {n c0_1 : Nat} {x y z : Int} (h : clock_Sync.Ok w W gc gr gz a0_0 A0_1 n c0_1 x y z) :
    W.cell? ⟨gc, 0, none⟩ = some (.int .i64 a0_0) ∧ W.cell? ⟨gc, 1, none⟩ = some (.slice A0_1 n c0_1) ∧ W.cell? ⟨gr, 0, none⟩ = some (.int .i64 x) ∧ W.cell? ⟨gr, 1, none⟩ = some (.int .i64 y) ∧ W.cell? ⟨gr, 2, none⟩ = some (.int .i64 z) ∧
    W.cell? ⟨gz, 0, none⟩ = some (.int .i64 0) ∧ W.cell? ⟨gz, 1, none⟩ = some (.slice none 0 0) ∧ W.frozen? ⟨gz, 0, none⟩ = false ∧ W.frozen? ⟨gz, 1, none⟩ = false ∧ W.frozen? ⟨gr, 1, none⟩ = false ∧ W.frozen? ⟨gr, 2, none⟩ = false :=
  ⟨(blk_cell h.gc 0).trans rfl, (blk_cell h.gc 1).trans rfl, (blk_cell h.gr 0).trans rfl, (blk_cell h.gr 1).trans rfl, (blk_cell h.gr 2).trans rfl, (blk_cell h.gz 0).trans rfl, (blk_cell h.gz 1).trans rfl, blk_frozen h.gz 0, blk_frozen h.gz 1, blk_frozen h.gr 1, blk_frozen h.gr 2⟩
set_option maxHeartbeats 8000000 in
set_option maxRecDepth 100000 in
theorem clock_Sync.calls (k : Nat) (a0_0 : Int) (A0_1 : Option Addr) (c0_1 : Nat) (l0_1 : List S58) (a1_0 a1_1 a1_2 : Int) (r1 : Int) (r2 : List S58) (r3 : Int) (w : World) (hr0_1 : Kd.C k58 w A0_1 l0_1.length l0_1) (hc0_1 : l0_1.length ≤ c0_1) (h : clock_Sync.f k a0_0 l0_1 a1_0 a1_1 a1_2 = some (r1, r2, r3)) :
    Calls Try.prog 41 #[.agg #[.int .i64 a0_0, .slice A0_1 l0_1.length c0_1], .agg #[.int .i64 a1_0, .int .i64 a1_1, .int .i64 a1_2]] w fun e w' => ∃ v1_ : Value, e = .returned (.tuple #[.agg #[.int .i64 r1, v1_], .int .i64 r3]) ∧ Kd.Q k58 58 w' w.heap.size (fun _ => True) v1_ r2 ∧ Below w.heap.size w w' := by
  unfold clock_Sync.f at h
  obtain ⟨t, ht, h⟩ := Option.bind_eq_some_iff.mp h
  have HC := Aside0.mk (fun W (hB : Below w.heap.size w W) => clock_Check.calls k a0_0 A0_1 c0_1 l0_1 t W (Kd.C_below hr0_1 hB) hc0_1 ht)
  have HR := Aside0.mk (fun W (hB : Below w.heap.size w W) => Kd.C_below hr0_1 hB)
  have HC0 := Aside0.mk hc0_1
  have hu54 := Try.underlying54
  have hu58 := Try.underlying58
  have hu56 := Try.underlying56
  clear hr0_1 hc0_1 ht
  go_enter Try.func41, Try.ntmps41
  go_wp2_with fail
  have ok0 : clock_Sync.Ok w (((w.alloc (clock_Sync.cc a0_0 A0_1 l0_1.length c0_1)).alloc (clock_Sync.cr a1_0 a1_1 a1_2)).alloc clock_Sync.cz) w.heap.size (w.heap.size + 1) (w.heap.size + 1 + 1) a0_0 A0_1 l0_1.length c0_1 a1_0 a1_1 a1_2 := by
    refine ⟨below_alloc (below_alloc (below_alloc (Below.refl _ _) _) _) _, blk_alloc (blk_alloc (blk_new _ _) _) _, blk_alloc ?_ _, ?_⟩
    · have := blk_new (w.alloc (clock_Sync.cc a0_0 A0_1 l0_1.length c0_1)) (clock_Sync.cr a1_0 a1_1 a1_2)
      rw [World.size_alloc] at this
      exact this
    · have := blk_new ((w.alloc (clock_Sync.cc a0_0 A0_1 l0_1.length c0_1)).alloc (clock_Sync.cr a1_0 a1_1 a1_2)) clock_Sync.cz
      rw [World.size_alloc, World.size_alloc] at this
      exact this
  refine (HC.out _ ok0.hb).mono ?_
  rintro e W1 ⟨rfl, hb1⟩
  have OK1 := Aside0.mk (ok0.step hb1)
  clear ok0 hb1
  by_cases ct : t = 0
  · subst ct
    rw [if_pos rfl] at h
    obtain ⟨b, hb, h⟩ := Option.bind_eq_some_iff.mp h
    have HI := Aside0.mk hb
    clear hb
    obtain ⟨q1, q2, q3, q4, q5, q6, q7, q8, q9, q10, q11⟩ := OK1.out.cells
    go_wp2_with fail
    have hcd := C_ints_ (W := W1.alloc (Obj.cells #[.int .i64 a1_0] 3)) [a1_0] (blk_new _ _) (by simp)
    refine (clock_instants.calls (some ⟨W1.heap.size, 0, none⟩) 1 [a1_0] b _ hcd (Nat.le_refl _) HI.out).mono ?_
    rintro e W2 ⟨rfl, hd2⟩
    have OK2 := Aside0.mk (OK1.out.step (below_step (below_alloc (Below.refl _ _) _) hd2.below))
    clear hcd hd2 q1 q2 q3 q4 q5 q6 q7 q8 q9 q10 q11
    obtain ⟨q1, q2, q3, q4, q5, q6, q7, q8, q9, q10, q11⟩ := OK2.out.cells
    cases b with
    | false =>
      rw [if_neg (by simp)] at h
      simp only [Option.some.injEq, Prod.mk.injEq] at h
      obtain ⟨rfl, rfl, rfl⟩ := h
      go_wp2
      refine bodyPost_ret (results_ct rfl _ _ (w.heap.size + 1 + 1) 54 #[.int .i64 0, .slice none 0 0] (0, 0) _ rfl (blk_put (cs := #[.int .i64 0, .slice none 0 0]) (blk_put (cs := #[.int .i64 0, .slice none 0 0]) OK2.out.gz 0 _ rfl) 1 _ rfl) hu54 rfl (by kernel_rfl)) rfl ?_
      exact ⟨_, rfl, Kd.Q_nil _ _ _ _ _, below_set (below_set OK2.out.hb (by omega)) (by omega)⟩
    | true =>
      rw [if_pos rfl] at h
      obtain ⟨b2, hb2, h⟩ := Option.bind_eq_some_iff.mp h
      have HV := Aside0.mk hb2
      clear hb2
      go_wp2_with fail
      refine (clock_valid.calls a1_1 a1_2 b2 _ HV.out).mono ?_
      rintro e W3 ⟨rfl, hb3⟩
      have OK3 := Aside0.mk (OK2.out.step hb3)
      clear hb3 q1 q2 q3 q4 q5 q6 q7 q8 q9 q10 q11
      obtain ⟨q1, q2, q3, q4, q5, q6, q7, q8, q9, q10, q11⟩ := OK3.out.cells
      cases b2 with
      | false =>
        rw [if_neg (by simp)] at h
        simp only [Option.some.injEq, Prod.mk.injEq] at h
        obtain ⟨rfl, rfl, rfl⟩ := h
        go_wp2
        refine bodyPost_ret (results_ct rfl _ _ (w.heap.size + 1 + 1) 54 #[.int .i64 0, .slice none 0 0] (0, 0) _ rfl (blk_put (cs := #[.int .i64 0, .slice none 0 0]) (blk_put (cs := #[.int .i64 0, .slice none 0 0]) OK3.out.gz 0 _ rfl) 1 _ rfl) hu54 rfl (by kernel_rfl)) rfl ?_
        exact ⟨_, rfl, Kd.Q_nil _ _ _ _ _, below_set (below_set OK3.out.hb (by omega)) (by omega)⟩
      | true =>
        rw [if_pos rfl] at h
        by_cases hpos : 0 < l0_1.length
        · have hd1 : decide ((0 : Int) < (l0_1.length : Int)) = true := decide_eq_true (by omega)
          obtain ⟨J, hJ⟩ : ∃ J, (l0_1.length : Int) - 1 = J := ⟨_, rfl⟩
          have hx0 : (0 : Int) ≤ J := by omega
          have hx9 : J < (l0_1.length : Int) := by omega
          have hmax := (HR.out W3 OK3.out.hb).2.1
          have hwr : IntKind.i64.wrap J = J := by rw [IntKind.wrap_i64]; unfold maxLen at hmax; omega
          clear hmax
          rw [hJ] at h
          obtain ⟨ad, e0, p0, p1, p2⟩ := at_T58 (HR.out W3 OK3.out.hb) J hx0 hx9
          cases e0
          generalize rd_T58 l0_1 J = rr at h p0 p1 p2
          by_cases hst : a1_0 ≤ rr.f0
          · have hd2 : decide (a1_0 ≤ rr.f0) = true := decide_eq_true hst
            rw [if_pos ⟨hpos, hst⟩] at h
            simp only [Option.some.injEq, Prod.mk.injEq] at h
            obtain ⟨rfl, rfl, rfl⟩ := h
            go_wp2_with fail
            go_quiet (fail)
            have OK4 := Aside0.mk (OK3.out.step (pw_below_drewN (Below.refl _ _) nq))
            go_wp2
            refine bodyPost_ret (results_ct rfl _ _ (w.heap.size + 1 + 1) 54 #[.int .i64 0, .slice none 0 0] (0, 0) _ rfl (blk_put (cs := #[.int .i64 0, .slice none 0 0]) (blk_put (cs := #[.int .i64 0, .slice none 0 0]) OK4.out.gz 0 _ rfl) 1 _ rfl) hu54 rfl (by kernel_rfl)) rfl ?_
            exact ⟨_, rfl, Kd.Q_nil _ _ _ _ _, below_set (below_set OK4.out.hb (by omega)) (by omega)⟩
          · have hd2 : decide (a1_0 ≤ rr.f0) = false := decide_eq_false hst
            rw [if_neg (by omega)] at h
            go_wp2_with fail
            go_quiet (fail)
            go_wp2_with fail
            obtain ⟨⟨n1, n2, n3⟩, hn, h⟩ := Option.bind_eq_some_iff.mp h
            dsimp only at h
            have HN := Aside0.mk hn
            clear hn
            have OK4 := Aside0.mk (OK3.out.step (pw_below_drewN (Below.refl _ _) nq))
            refine (clock_Now.calls k a0_0 (some ad) c0_1 l0_1 a1_0 n1 n2 n3 _ (HR.out _ OK4.out.hb) HC0.out HN.out).mono ?_
            rintro e W5 ⟨rfl, hb5⟩
            have OK5 := Aside0.mk ((OK4.out.step hb5).step (below_alloc (Below.refl _ _) (Obj.cells #[.int .i64 n1, .int .i64 n2] 56)))
            have hbx := blk_new W5 (Obj.cells #[.int .i64 n1, .int .i64 n2] 56)
            have z1 : (W5.alloc (Obj.cells #[.int .i64 n1, .int .i64 n2] 56)).cell? ⟨W5.heap.size, 0, none⟩ = some (.int .i64 n1) := (blk_cell hbx 0).trans rfl
            have z2 : (W5.alloc (Obj.cells #[.int .i64 n1, .int .i64 n2] 56)).cell? ⟨W5.heap.size, 1, none⟩ = some (.int .i64 n2) := (blk_cell hbx 1).trans rfl
            clear hb5 q1 q2 q3 q4 q5 q6 q7 q8 q9 q10 q11
            obtain ⟨q1, q2, q3, q4, q5, q6, q7, q8, q9, q10, q11⟩ := OK5.out.cells
            by_cases cn : n3 = 0
            · subst cn
              rw [if_pos rfl] at h
              obtain ⟨⟨j1, j2, j3⟩, hj, h⟩ := Option.bind_eq_some_iff.mp h
              dsimp only at h
              have HJ := Aside0.mk hj
              clear hj
              go_wp2_with fail
              refine (clock_Join.calls k a1_1 a1_2 n1 n2 j1 j2 j3 _ HJ.out).mono ?_
              rintro e W6 ⟨rfl, hb6⟩
              have OK6 := Aside0.mk (OK5.out.step hb6)
              clear hb6 q1 q2 q3 q4 q5 q6 q7 q8 q9 q10 q11 z1 z2 hbx
              obtain ⟨q1, q2, q3, q4, q5, q6, q7, q8, q9, q10, q11⟩ := OK6.out.cells
              have OK7 := Aside0.mk (OK6.out.put j1 j2 (by omega) (by omega) (by omega))
              by_cases cj : j3 = 0
              · subst cj
                rw [if_pos rfl] at h
                split at h
                case isFalse => cases h
                rename_i hlen
                simp only [Option.some.injEq, Prod.mk.injEq] at h
                obtain ⟨rfl, rfl, rfl⟩ := h
                go_wp2_with fail
                generalize ((W6.setCell ⟨w.heap.size + 1, 1, none⟩ (.int .i64 j1)).setCell ⟨w.heap.size + 1, 2, none⟩ (.int .i64 j2)) = W7 at OK7 ⊢
                clear q1 q2 q3 q4 q5 q6 q7 q8 q9 q10 q11
                have hmix : Try.prog.follows .mixedOrders = true := by kernel_rfl
                have hcl : api_Reading.f l0_1 = some l0_1 := by unfold api_Reading.f; rw [if_pos (by omega)]
                have hsz7 : w.heap.size + 1 + 1 < W7.heap.size := blk_lt OK7.out.gz
                refine (wpIn_wide (n := 3)).1 ?_
                obtain ⟨S, hSdef⟩ : ∃ S : World → Prop, S = fun X => clock_Sync.Ok w X w.heap.size (w.heap.size + 1) (w.heap.size + 1 + 1) a0_0 (some ad) l0_1.length c0_1 a1_0 j1 j2 := ⟨_, rfl⟩
                have HS0 : Aside0 (S W7.drew) := ⟨by rw [hSdef]; exact OK7.out.step (below_drew (Below.refl _ _))⟩
                have ls : Aside0 (∀ X, S X → clock_Sync.Ok w X w.heap.size (w.heap.size + 1) (w.heap.size + 1 + 1) a0_0 (some ad) l0_1.length c0_1 a1_0 j1 j2) := ⟨fun X h => by rw [hSdef] at h; exact h⟩
                have lt : Aside0 (∀ X, clock_Sync.Ok w X w.heap.size (w.heap.size + 1) (w.heap.size + 1 + 1) a0_0 (some ad) l0_1.length c0_1 a1_0 j1 j2 → S X) := ⟨fun X h => by rw [hSdef]; exact h⟩
                clear hSdef
                refine wpIn_region_held S 5 hmix ?_
                refine wpAnyHI_take (i := 0) (v := .pointer (some ⟨w.heap.size, 1, none⟩)) (fun _ => trivial) rfl (by kernel_rfl) (fun _ _ _ h => h) (Or.inl ⟨by kernel_rfl, fun X hX => ?_⟩) HS0.out ?_
                · go_simp
                refine wpAnyHI_take (i := 1) (v := .slice (some ad) l0_1.length c0_1) (fun _ => trivial) rfl (by kernel_rfl) (fun _ _ _ h => h) (Or.inl ⟨by kernel_rfl, fun X hX => ?_⟩) HS0.out ?_
                · obtain ⟨q1, q2, q3, q4, q5, q6, q7, q8, q9, q10, q11⟩ := (ls.out X hX).cells
                  go_simp
                refine wpAnyHI_take (i := 3) (v := .agg #[.int .i64 a1_0, .int .i64 j1, .int .i64 j2]) (fun _ => trivial) rfl (by kernel_rfl) (fun _ _ _ h => h) (Or.inl ⟨by kernel_rfl, fun X hX => ?_⟩) HS0.out ?_
                · obtain ⟨q1, q2, q3, q4, q5, q6, q7, q8, q9, q10, q11⟩ := (ls.out X hX).cells
                  go_simp
                refine wpAnyHI_two (i := 2) (j := 4) (fun _ => trivial) rfl rfl (by kernel_rfl) (fun K' hK' => ?_) (fun K' hK' => ?_)
                · rw [if_pos (by kernel_rfl)]
                  go_simp
                  refine ⟨trivial, (callsIn_wide.2 (api_Reading.calls (some ad) c0_1 l0_1 l0_1 _ (HR.out _ (ls.out _ HS0.out).hb) HC0.out hcl)).mono ?_⟩
                  rintro e W8 ⟨v, rfl, hR8, hb8⟩
                  dsimp only
                  have hs8 := hb8.size
                  have OK8 := Aside0.mk ((ls.out _ HS0.out).step hb8)
                  refine hK' _ _ (lt.out _ OK8.out) ?_
                  clear hK' K'
                  have OK9 := Aside0.mk (OK8.out.step (below_alloc (Below.refl _ _) (clock_Sync.cr a1_0 j1 j2)))
                  have HR9 := Aside0.mk (Kd.R_below hR8 (below_alloc (Below.refl _ _) (clock_Sync.cr a1_0 j1 j2)))
                  have HG9 := Aside0.mk (blk_new W8 (clock_Sync.cr a1_0 j1 j2))
                  have HBs : Aside0 (W7.drew.heap.size ≤ (W8.alloc (clock_Sync.cr a1_0 j1 j2)).heap.size) := ⟨by rw [World.size_alloc]; omega⟩
                  have HBw : Aside0 (w.heap.size ≤ W7.drew.heap.size) := ⟨show w.heap.size ≤ W7.heap.size by omega⟩
                  have HBB : Aside0 (w.heap.size < W7.drew.heap.size ∧ w.heap.size + 1 < W7.drew.heap.size ∧ w.heap.size + 1 + 1 < W7.drew.heap.size ∧ W7.drew.heap.size ≤ (W8.alloc (clock_Sync.cr a1_0 j1 j2)).heap.size) := ⟨show w.heap.size < W7.heap.size by omega, show w.heap.size + 1 < W7.heap.size by omega, show w.heap.size + 1 + 1 < W7.heap.size by omega, HBs.out⟩
                  clear hR8 hb8 hs8
                  refine wpAnyHI_one (i := 4) (fun _ => trivial) rfl (by kernel_rfl) (fun K' hK' => ?_)
                  rw [if_pos (by kernel_rfl)]
                  go_simp
                  refine hK' _ _ (lt.out _ OK9.out) ?_
                  clear hK' K'
                  change wpAnyHI _ _ _ _ _ _ _ _ _ _ _ (W8.alloc (clock_Sync.cr a1_0 j1 j2))
                  generalize W8.heap.size = gL at HG9 ⊢
                  generalize W8.alloc (clock_Sync.cr a1_0 j1 j2) = W9 at OK9 HR9 HG9 HBs HBB ⊢
                  have hgr10 := HR9.out
                  obtain ⟨h0R, inner, hown, hreps⟩ := hgr10
                  obtain ⟨i0, hi0, hzz⟩ := Option.map_eq_some_iff.1 info58
                  simp only [Prod.mk.injEq] at hzz
                  obtain ⟨hz0, hz1, hz2⟩ := hzz
                  refine wpAnyHI_mid (fun _ => trivial) rfl (by kernel_rfl) (fun K' hK' => ?_)
                  rw [if_pos (by kernel_rfl)]
                  refine opIn_append (fun _ => trivial) (.tmp 72) (.tmp 74) 52 rfl W7.drew.heap.size 58 i0 _ 3 24 Try.underlying52 hi0 hz0 hz1 hz2 rfl (by decide) v l0_1.length inner rfl hown ⟨gL, 0, none⟩ 1 1 [.int .i64 a1_0, .int .i64 j1, .int .i64 j2] rfl rfl (clock_Sync.lit_ HG9.out) (by simp [Value.oneCell']) (by decide) (by unfold maxLen; omega) (by omega) HBs.out ?_
                  rintro g cap W10 hown10 hgr hat hlt
                  have HR10 := Aside0.mk (Kd.R_lower (Kd.R_appended (d := k58) (okp := fun _ => False) (p := ⟨a1_0, ⟨j1, j2⟩⟩) h0R hreps (k58_mkM _ _ _ ⟨a1_0, ⟨j1, j2⟩⟩) (fun _ h => h.elim) (fun _ _ => trivial) hown10 hgr (by rcases hat with hat | hat; exact .inl hat.symm; exact .inr ⟨g, rfl, by rw [hat]; exact Nat.le_refl _⟩)) HBw.out)
                  have OK10 := Aside0.mk (OK9.out.grown hgr HBB.out.1 HBB.out.2.1 HBB.out.2.2.1 HBB.out.2.2.2 (fun k hk => by have := Kd.R_base HR9.out k hk; exact this) HBw.out)
                  clear hgr hat hlt hown10 h0R hreps
                  refine hK' _ _ ?_
                  clear hK' K'
                  refine wpAnyIn_take1 (i := 6) (v := .slice (some ⟨g, 0, none⟩) (l0_1.length + 1) cap) (fun _ => trivial) rfl (by kernel_rfl) (Or.inl ⟨by kernel_rfl, fun X hX => ?_⟩) ?_
                  · go_simp
                  refine wpAnyIn_done (by kernel_rfl) ?_ _
                  go_simp
                  go_wp2_with fail
                  refine (wpIn_wide (n := 3)).1 ?_
                  obtain ⟨L, hL⟩ : ∃ L : Int, (l0_1.length : Int) + 1 = L := ⟨_, rfl⟩
                  have hwL : IntKind.i64.wrap (L - 16) = L - 16 := by rw [IntKind.wrap_i64]; omega
                  obtain ⟨J2, hJ2⟩ : ∃ J2 : Int, (if 16 < L then L - 16 else 0) = J2 := ⟨_, rfl⟩
                  have hJ20 : 0 ≤ J2 ∧ J2 ≤ L ∧ J2.toNat = l0_1.length + 1 - 16 := by rw [← hJ2]; split <;> omega
                  have hcut := cut_from (P := Try.prog) 52 58 .i64 Try.underlying52 hi0 3 hz1 (some ⟨g, 0, none⟩) (l0_1.length + 1) cap J2 hJ20.1 (by rw [Int.natCast_add]; have := hJ20.2.1; omega)
                  rw [hJ20.2.2] at hcut
                  have hq : Kd.Q k58 58 W10 w.heap.size (fun _ => True) (.slice (if cap = l0_1.length + 1 - 16 then some ⟨g, 0, none⟩ else (some (⟨g, 0, none⟩ : Addr)).map (·.add ((l0_1.length + 1 - 16) * 3))) (l0_1.length + 1 - (l0_1.length + 1 - 16)) (cap - (l0_1.length + 1 - 16))) ((l0_1 ++ ([⟨a1_0, ⟨j1, j2⟩⟩] : List S58)).drop (l0_1.length + 1 - 16)) := Kd.Q_drop (Kd.Q_of_R HR10.out) (by rw [List.length_append, List.length_singleton]; omega)
                  generalize (if cap = l0_1.length + 1 - 16 then some ⟨g, 0, none⟩ else (some (⟨g, 0, none⟩ : Addr)).map (·.add ((l0_1.length + 1 - 16) * 3))) = AQ at hcut hq
                  generalize l0_1.length + 1 - (l0_1.length + 1 - 16) = nQ at hcut hq
                  generalize cap - (l0_1.length + 1 - 16) = cQ at hcut hq
                  have HQ := Aside0.mk hq
                  clear hq hJ20
                  have HS1 : Aside0 (S W10.drew) := ⟨lt.out _ (OK10.out.step (below_drew (Below.refl _ _)))⟩
                  refine wpIn_region_held S 9 hmix ?_
                  refine wpAnyHI_take (i := 0) (v := .pointer (some ⟨w.heap.size, 0, none⟩)) (fun _ => trivial) rfl (by kernel_rfl) (fun _ _ _ h => h) (Or.inl ⟨by kernel_rfl, fun X hX => ?_⟩) HS1.out ?_
                  · go_simp
                  refine wpAnyHI_take (i := 1) (v := .int .i64 a0_0) (fun _ => trivial) rfl (by kernel_rfl) (fun _ _ _ h => h) (Or.inl ⟨by kernel_rfl, fun X hX => ?_⟩) HS1.out ?_
                  · obtain ⟨q1, q2, q3, q4, q5, q6, q7, q8, q9, q10, q11⟩ := (ls.out X hX).cells
                    go_simp
                  refine wpAnyHI_take (i := 2) (v := .slice (some ⟨g, 0, none⟩) (l0_1.length + 1) cap) (fun _ => trivial) rfl (by kernel_rfl) (fun _ _ _ h => h) (Or.inl ⟨by kernel_rfl, fun X hX => ?_⟩) HS1.out ?_
                  · go_simp
                  refine wpAnyHI_take (i := 3) (v := .slice (some ⟨g, 0, none⟩) (l0_1.length + 1) cap) (fun _ => trivial) rfl (by kernel_rfl) (fun _ _ _ h => h) (Or.inl ⟨by kernel_rfl, fun X hX => ?_⟩) HS1.out ?_
                  · go_simp
                  refine wpAnyHI_take (i := 4) (v := .int .i64 L) (fun _ => trivial) rfl (by kernel_rfl) (fun _ _ _ h => h) (Or.inl ⟨by kernel_rfl, fun X hX => ?_⟩) HS1.out ?_
                  · go_simp
                  refine wpAnyHI_take (i := 5) (v := .int .i64 (L - 16)) (fun _ => trivial) rfl (by kernel_rfl) (fun _ _ _ h => h) (Or.inl ⟨by kernel_rfl, fun X hX => ?_⟩) HS1.out ?_
                  · go_simp
                  refine wpAnyHI_take (i := 6) (v := .int .i64 J2) (fun _ => trivial) rfl (by kernel_rfl) (fun _ _ _ h => h) (Or.inl ⟨by kernel_rfl, fun X hX => ?_⟩) HS1.out ?_
                  · go_simp
                  refine wpAnyHI_take (i := 7) (v := .slice AQ nQ cQ) (fun _ => trivial) rfl (by kernel_rfl) (fun _ _ _ h => h) (Or.inl ⟨by kernel_rfl, fun X hX => ?_⟩) HS1.out ?_
                  · have := hcut X
                    go_simp
                  refine wpAnyHI_take (i := 8) (v := .agg #[.int .i64 a0_0, .slice AQ nQ cQ]) (fun _ => trivial) rfl (by kernel_rfl) (fun _ _ _ h => h) (Or.inl ⟨by kernel_rfl, fun X hX => ?_⟩) HS1.out ?_
                  · go_simp
                  refine wpAnyHI_mid (fun _ => trivial) rfl (by kernel_rfl) (fun K' hK' => ?_)
                  rw [if_pos (by kernel_rfl)]
                  obtain ⟨q1, q2, q3, q4, q5, q6, q7, q8, q9, q10, q11⟩ := OK10.out.cells
                  go_simp
                  refine hK' _ _ ?_
                  clear hK' K'
                  refine wpAnyIn_take1 (i := 10) (v := .int .i64 0) (fun _ => trivial) rfl (by kernel_rfl) (Or.inl ⟨by kernel_rfl, fun X hX => ?_⟩) ?_
                  · go_simp
                  refine wpAnyIn_done (by kernel_rfl) ?_ _
                  go_simp
                  go_wp2
                  have hz1_ := blk_put (cs := #[.int .i64 0, .slice none 0 0]) OK10.out.gz 0 (.int .i64 a0_0) rfl
                  have hz2_ := blk_put (cs := #[.int .i64 a0_0, .slice none 0 0]) hz1_ 1 (.slice AQ nQ cQ) rfl
                  refine bodyPost_ret (results_ct rfl _ _ (w.heap.size + 1 + 1) 54 #[.int .i64 a0_0, .slice AQ nQ cQ] (0, 0) _ rfl (blk_drew hz2_) hu54 rfl (by kernel_rfl)) rfl ?_
                  exact ⟨_, rfl, Kd.Q_drew (Kd.Q_set (Kd.Q_set HQ.out OK10.out.gz (by decide) 0 _) hz1_ (by decide) 1 _), below_drew (below_set (below_set OK10.out.hb (by omega)) (by omega))⟩
                · rw [if_pos (by kernel_rfl)]
                  go_simp
                  have OK8 := Aside0.mk ((ls.out _ HS0.out).step (below_alloc (Below.refl _ _) (clock_Sync.cr a1_0 j1 j2)))
                  have hg8 := blk_new W7.drew (clock_Sync.cr a1_0 j1 j2)
                  refine hK' _ _ (lt.out _ OK8.out) ?_
                  clear hK' K'
                  refine wpAnyHI_one (i := 2) (fun _ => trivial) rfl (by kernel_rfl) (fun K' hK' => ?_)
                  rw [if_pos (by kernel_rfl)]
                  go_simp
                  refine ⟨trivial, (callsIn_wide.2 (api_Reading.calls (some ad) c0_1 l0_1 l0_1 (W7.drew.alloc (clock_Sync.cr a1_0 j1 j2)) (HR.out _ OK8.out.hb) HC0.out hcl)).mono ?_⟩
                  rintro e W9 ⟨v, rfl, hR9, hb9⟩
                  dsimp only
                  have hs9 := hb9.size
                  have OK9 := Aside0.mk (OK8.out.step hb9)
                  have HR9 := Aside0.mk hR9
                  have HG9 := Aside0.mk (blk_below hg8 hb9)
                  have HBs : Aside0 ((W7.drew.alloc (clock_Sync.cr a1_0 j1 j2)).heap.size ≤ W9.heap.size) := ⟨hs9⟩
                  have hsz8 : (W7.drew.alloc (clock_Sync.cr a1_0 j1 j2)).heap.size = W7.heap.size + 1 := World.size_alloc _ _
                  have HBw : Aside0 (w.heap.size ≤ (W7.drew.alloc (clock_Sync.cr a1_0 j1 j2)).heap.size) := ⟨by omega⟩
                  have HBB : Aside0 (w.heap.size < (W7.drew.alloc (clock_Sync.cr a1_0 j1 j2)).heap.size ∧ w.heap.size + 1 < (W7.drew.alloc (clock_Sync.cr a1_0 j1 j2)).heap.size ∧ w.heap.size + 1 + 1 < (W7.drew.alloc (clock_Sync.cr a1_0 j1 j2)).heap.size ∧ (W7.drew.alloc (clock_Sync.cr a1_0 j1 j2)).heap.size ≤ W9.heap.size) := ⟨by omega, by omega, by omega, HBs.out⟩
                  refine hK' _ _ (lt.out _ OK9.out) ?_
                  clear hK' K' hR9 hb9 hs9 hsz8 hg8
                  change Aside0 (W9.heap[W7.heap.size]? = _) at HG9
                  generalize W7.heap.size = gL at HG9 ⊢
                  have hgr10 := HR9.out
                  obtain ⟨h0R, inner, hown, hreps⟩ := hgr10
                  obtain ⟨i0, hi0, hzz⟩ := Option.map_eq_some_iff.1 info58
                  simp only [Prod.mk.injEq] at hzz
                  obtain ⟨hz0, hz1, hz2⟩ := hzz
                  refine wpAnyHI_mid (fun _ => trivial) rfl (by kernel_rfl) (fun K' hK' => ?_)
                  rw [if_pos (by kernel_rfl)]
                  refine opIn_append (fun _ => trivial) (.tmp 72) (.tmp 74) 52 rfl (W7.drew.alloc (clock_Sync.cr a1_0 j1 j2)).heap.size 58 i0 _ 3 24 Try.underlying52 hi0 hz0 hz1 hz2 rfl (by decide) v l0_1.length inner rfl hown ⟨gL, 0, none⟩ 1 1 [.int .i64 a1_0, .int .i64 j1, .int .i64 j2] rfl rfl (clock_Sync.lit_ HG9.out) (by simp [Value.oneCell']) (by decide) (by unfold maxLen; omega) (by omega) HBs.out ?_
                  rintro g cap W10 hown10 hgr hat hlt
                  have HR10 := Aside0.mk (Kd.R_lower (Kd.R_appended (d := k58) (okp := fun _ => False) (p := ⟨a1_0, ⟨j1, j2⟩⟩) h0R hreps (k58_mkM _ _ _ ⟨a1_0, ⟨j1, j2⟩⟩) (fun _ h => h.elim) (fun _ _ => trivial) hown10 hgr (by rcases hat with hat | hat; exact .inl hat.symm; exact .inr ⟨g, rfl, by rw [hat]; exact Nat.le_refl _⟩)) HBw.out)
                  have OK10 := Aside0.mk (OK9.out.grown hgr HBB.out.1 HBB.out.2.1 HBB.out.2.2.1 HBB.out.2.2.2 (fun k hk => by have := Kd.R_base HR9.out k hk; exact this) HBw.out)
                  clear hgr hat hlt hown10 h0R hreps
                  refine hK' _ _ ?_
                  clear hK' K'
                  refine wpAnyIn_take1 (i := 6) (v := .slice (some ⟨g, 0, none⟩) (l0_1.length + 1) cap) (fun _ => trivial) rfl (by kernel_rfl) (Or.inl ⟨by kernel_rfl, fun X hX => ?_⟩) ?_
                  · go_simp
                  refine wpAnyIn_done (by kernel_rfl) ?_ _
                  go_simp
                  go_wp2_with fail
                  refine (wpIn_wide (n := 3)).1 ?_
                  obtain ⟨L, hL⟩ : ∃ L : Int, (l0_1.length : Int) + 1 = L := ⟨_, rfl⟩
                  have hwL : IntKind.i64.wrap (L - 16) = L - 16 := by rw [IntKind.wrap_i64]; omega
                  obtain ⟨J2, hJ2⟩ : ∃ J2 : Int, (if 16 < L then L - 16 else 0) = J2 := ⟨_, rfl⟩
                  have hJ20 : 0 ≤ J2 ∧ J2 ≤ L ∧ J2.toNat = l0_1.length + 1 - 16 := by rw [← hJ2]; split <;> omega
                  have hcut := cut_from (P := Try.prog) 52 58 .i64 Try.underlying52 hi0 3 hz1 (some ⟨g, 0, none⟩) (l0_1.length + 1) cap J2 hJ20.1 (by rw [Int.natCast_add]; have := hJ20.2.1; omega)
                  rw [hJ20.2.2] at hcut
                  have hq : Kd.Q k58 58 W10 w.heap.size (fun _ => True) (.slice (if cap = l0_1.length + 1 - 16 then some ⟨g, 0, none⟩ else (some (⟨g, 0, none⟩ : Addr)).map (·.add ((l0_1.length + 1 - 16) * 3))) (l0_1.length + 1 - (l0_1.length + 1 - 16)) (cap - (l0_1.length + 1 - 16))) ((l0_1 ++ ([⟨a1_0, ⟨j1, j2⟩⟩] : List S58)).drop (l0_1.length + 1 - 16)) := Kd.Q_drop (Kd.Q_of_R HR10.out) (by rw [List.length_append, List.length_singleton]; omega)
                  generalize (if cap = l0_1.length + 1 - 16 then some ⟨g, 0, none⟩ else (some (⟨g, 0, none⟩ : Addr)).map (·.add ((l0_1.length + 1 - 16) * 3))) = AQ at hcut hq
                  generalize l0_1.length + 1 - (l0_1.length + 1 - 16) = nQ at hcut hq
                  generalize cap - (l0_1.length + 1 - 16) = cQ at hcut hq
                  have HQ := Aside0.mk hq
                  clear hq hJ20
                  have HS1 : Aside0 (S W10.drew) := ⟨lt.out _ (OK10.out.step (below_drew (Below.refl _ _)))⟩
                  refine wpIn_region_held S 9 hmix ?_
                  refine wpAnyHI_take (i := 0) (v := .pointer (some ⟨w.heap.size, 0, none⟩)) (fun _ => trivial) rfl (by kernel_rfl) (fun _ _ _ h => h) (Or.inl ⟨by kernel_rfl, fun X hX => ?_⟩) HS1.out ?_
                  · go_simp
                  refine wpAnyHI_take (i := 1) (v := .int .i64 a0_0) (fun _ => trivial) rfl (by kernel_rfl) (fun _ _ _ h => h) (Or.inl ⟨by kernel_rfl, fun X hX => ?_⟩) HS1.out ?_
                  · obtain ⟨q1, q2, q3, q4, q5, q6, q7, q8, q9, q10, q11⟩ := (ls.out X hX).cells
                    go_simp
                  refine wpAnyHI_take (i := 2) (v := .slice (some ⟨g, 0, none⟩) (l0_1.length + 1) cap) (fun _ => trivial) rfl (by kernel_rfl) (fun _ _ _ h => h) (Or.inl ⟨by kernel_rfl, fun X hX => ?_⟩) HS1.out ?_
                  · go_simp
                  refine wpAnyHI_take (i := 3) (v := .slice (some ⟨g, 0, none⟩) (l0_1.length + 1) cap) (fun _ => trivial) rfl (by kernel_rfl) (fun _ _ _ h => h) (Or.inl ⟨by kernel_rfl, fun X hX => ?_⟩) HS1.out ?_
                  · go_simp
                  refine wpAnyHI_take (i := 4) (v := .int .i64 L) (fun _ => trivial) rfl (by kernel_rfl) (fun _ _ _ h => h) (Or.inl ⟨by kernel_rfl, fun X hX => ?_⟩) HS1.out ?_
                  · go_simp
                  refine wpAnyHI_take (i := 5) (v := .int .i64 (L - 16)) (fun _ => trivial) rfl (by kernel_rfl) (fun _ _ _ h => h) (Or.inl ⟨by kernel_rfl, fun X hX => ?_⟩) HS1.out ?_
                  · go_simp
                  refine wpAnyHI_take (i := 6) (v := .int .i64 J2) (fun _ => trivial) rfl (by kernel_rfl) (fun _ _ _ h => h) (Or.inl ⟨by kernel_rfl, fun X hX => ?_⟩) HS1.out ?_
                  · go_simp
                  refine wpAnyHI_take (i := 7) (v := .slice AQ nQ cQ) (fun _ => trivial) rfl (by kernel_rfl) (fun _ _ _ h => h) (Or.inl ⟨by kernel_rfl, fun X hX => ?_⟩) HS1.out ?_
                  · have := hcut X
                    go_simp
                  refine wpAnyHI_take (i := 8) (v := .agg #[.int .i64 a0_0, .slice AQ nQ cQ]) (fun _ => trivial) rfl (by kernel_rfl) (fun _ _ _ h => h) (Or.inl ⟨by kernel_rfl, fun X hX => ?_⟩) HS1.out ?_
                  · go_simp
                  refine wpAnyHI_mid (fun _ => trivial) rfl (by kernel_rfl) (fun K' hK' => ?_)
                  rw [if_pos (by kernel_rfl)]
                  obtain ⟨q1, q2, q3, q4, q5, q6, q7, q8, q9, q10, q11⟩ := OK10.out.cells
                  go_simp
                  refine hK' _ _ ?_
                  clear hK' K'
                  refine wpAnyIn_take1 (i := 10) (v := .int .i64 0) (fun _ => trivial) rfl (by kernel_rfl) (Or.inl ⟨by kernel_rfl, fun X hX => ?_⟩) ?_
                  · go_simp
                  refine wpAnyIn_done (by kernel_rfl) ?_ _
                  go_simp
                  go_wp2
                  have hz1_ := blk_put (cs := #[.int .i64 0, .slice none 0 0]) OK10.out.gz 0 (.int .i64 a0_0) rfl
                  have hz2_ := blk_put (cs := #[.int .i64 a0_0, .slice none 0 0]) hz1_ 1 (.slice AQ nQ cQ) rfl
                  refine bodyPost_ret (results_ct rfl _ _ (w.heap.size + 1 + 1) 54 #[.int .i64 a0_0, .slice AQ nQ cQ] (0, 0) _ rfl (blk_drew hz2_) hu54 rfl (by kernel_rfl)) rfl ?_
                  exact ⟨_, rfl, Kd.Q_drew (Kd.Q_set (Kd.Q_set HQ.out OK10.out.gz (by decide) 0 _) hz1_ (by decide) 1 _), below_drew (below_set (below_set OK10.out.hb (by omega)) (by omega))⟩
              · rw [if_neg cj] at h
                have cj1 : (j3 == 0) = false := beq_eq_false_iff_ne.mpr cj
                have cj2 : (j3 != 0) = true := bne_iff_ne.mpr cj
                simp only [Option.some.injEq, Prod.mk.injEq] at h
                obtain ⟨rfl, rfl, rfl⟩ := h
                go_wp2
                refine bodyPost_ret (results_ct rfl _ _ (w.heap.size + 1 + 1) 54 #[.int .i64 0, .slice none 0 0] (0, 0) _ rfl (blk_put (cs := #[.int .i64 0, .slice none 0 0]) (blk_put (cs := #[.int .i64 0, .slice none 0 0]) OK7.out.gz 0 _ rfl) 1 _ rfl) hu54 rfl (by kernel_rfl)) rfl ?_
                exact ⟨_, rfl, Kd.Q_nil _ _ _ _ _, below_set (below_set OK7.out.hb (by omega)) (by omega)⟩
            · rw [if_neg cn] at h
              have cn1 : (n3 == 0) = false := beq_eq_false_iff_ne.mpr cn
              have cn2 : (n3 != 0) = true := bne_iff_ne.mpr cn
              simp only [Option.some.injEq, Prod.mk.injEq] at h
              obtain ⟨rfl, rfl, rfl⟩ := h
              go_wp2
              refine bodyPost_ret (results_ct rfl _ _ (w.heap.size + 1 + 1) 54 #[.int .i64 0, .slice none 0 0] (0, 0) _ rfl (blk_put (cs := #[.int .i64 0, .slice none 0 0]) (blk_put (cs := #[.int .i64 0, .slice none 0 0]) OK5.out.gz 0 _ rfl) 1 _ rfl) hu54 rfl (by kernel_rfl)) rfl ?_
              exact ⟨_, rfl, Kd.Q_nil _ _ _ _ _, below_set (below_set OK5.out.hb (by omega)) (by omega)⟩
        · have hd1 : decide ((0 : Int) < (l0_1.length : Int)) = false := decide_eq_false (by omega)
          rw [if_neg (by omega)] at h
          go_wp2_with fail
          go_quiet (fail)
          go_wp2_with fail
          obtain ⟨⟨n1, n2, n3⟩, hn, h⟩ := Option.bind_eq_some_iff.mp h
          dsimp only at h
          have HN := Aside0.mk hn
          clear hn
          have OK4 := Aside0.mk (OK3.out.step (pw_below_drewN (Below.refl _ _) nq))
          refine (clock_Now.calls k a0_0 A0_1 c0_1 l0_1 a1_0 n1 n2 n3 _ (HR.out _ OK4.out.hb) HC0.out HN.out).mono ?_
          rintro e W5 ⟨rfl, hb5⟩
          have OK5 := Aside0.mk ((OK4.out.step hb5).step (below_alloc (Below.refl _ _) (Obj.cells #[.int .i64 n1, .int .i64 n2] 56)))
          have hbx := blk_new W5 (Obj.cells #[.int .i64 n1, .int .i64 n2] 56)
          have z1 : (W5.alloc (Obj.cells #[.int .i64 n1, .int .i64 n2] 56)).cell? ⟨W5.heap.size, 0, none⟩ = some (.int .i64 n1) := (blk_cell hbx 0).trans rfl
          have z2 : (W5.alloc (Obj.cells #[.int .i64 n1, .int .i64 n2] 56)).cell? ⟨W5.heap.size, 1, none⟩ = some (.int .i64 n2) := (blk_cell hbx 1).trans rfl
          clear hb5 q1 q2 q3 q4 q5 q6 q7 q8 q9 q10 q11
          obtain ⟨q1, q2, q3, q4, q5, q6, q7, q8, q9, q10, q11⟩ := OK5.out.cells
          by_cases cn : n3 = 0
          · subst cn
            rw [if_pos rfl] at h
            obtain ⟨⟨j1, j2, j3⟩, hj, h⟩ := Option.bind_eq_some_iff.mp h
            dsimp only at h
            have HJ := Aside0.mk hj
            clear hj
            go_wp2_with fail
            refine (clock_Join.calls k a1_1 a1_2 n1 n2 j1 j2 j3 _ HJ.out).mono ?_
            rintro e W6 ⟨rfl, hb6⟩
            have OK6 := Aside0.mk (OK5.out.step hb6)
            clear hb6 q1 q2 q3 q4 q5 q6 q7 q8 q9 q10 q11 z1 z2 hbx
            obtain ⟨q1, q2, q3, q4, q5, q6, q7, q8, q9, q10, q11⟩ := OK6.out.cells
            have OK7 := Aside0.mk (OK6.out.put j1 j2 (by omega) (by omega) (by omega))
            by_cases cj : j3 = 0
            · subst cj
              rw [if_pos rfl] at h
              split at h
              case isFalse => cases h
              rename_i hlen
              simp only [Option.some.injEq, Prod.mk.injEq] at h
              obtain ⟨rfl, rfl, rfl⟩ := h
              go_wp2_with fail
              generalize ((W6.setCell ⟨w.heap.size + 1, 1, none⟩ (.int .i64 j1)).setCell ⟨w.heap.size + 1, 2, none⟩ (.int .i64 j2)) = W7 at OK7 ⊢
              clear q1 q2 q3 q4 q5 q6 q7 q8 q9 q10 q11
              have hmix : Try.prog.follows .mixedOrders = true := by kernel_rfl
              have hcl : api_Reading.f l0_1 = some l0_1 := by unfold api_Reading.f; rw [if_pos (by omega)]
              have hsz7 : w.heap.size + 1 + 1 < W7.heap.size := blk_lt OK7.out.gz
              refine (wpIn_wide (n := 3)).1 ?_
              obtain ⟨S, hSdef⟩ : ∃ S : World → Prop, S = fun X => clock_Sync.Ok w X w.heap.size (w.heap.size + 1) (w.heap.size + 1 + 1) a0_0 A0_1 l0_1.length c0_1 a1_0 j1 j2 := ⟨_, rfl⟩
              have HS0 : Aside0 (S W7.drew) := ⟨by rw [hSdef]; exact OK7.out.step (below_drew (Below.refl _ _))⟩
              have ls : Aside0 (∀ X, S X → clock_Sync.Ok w X w.heap.size (w.heap.size + 1) (w.heap.size + 1 + 1) a0_0 A0_1 l0_1.length c0_1 a1_0 j1 j2) := ⟨fun X h => by rw [hSdef] at h; exact h⟩
              have lt : Aside0 (∀ X, clock_Sync.Ok w X w.heap.size (w.heap.size + 1) (w.heap.size + 1 + 1) a0_0 A0_1 l0_1.length c0_1 a1_0 j1 j2 → S X) := ⟨fun X h => by rw [hSdef]; exact h⟩
              clear hSdef
              refine wpIn_region_held S 5 hmix ?_
              refine wpAnyHI_take (i := 0) (v := .pointer (some ⟨w.heap.size, 1, none⟩)) (fun _ => trivial) rfl (by kernel_rfl) (fun _ _ _ h => h) (Or.inl ⟨by kernel_rfl, fun X hX => ?_⟩) HS0.out ?_
              · go_simp
              refine wpAnyHI_take (i := 1) (v := .slice A0_1 l0_1.length c0_1) (fun _ => trivial) rfl (by kernel_rfl) (fun _ _ _ h => h) (Or.inl ⟨by kernel_rfl, fun X hX => ?_⟩) HS0.out ?_
              · obtain ⟨q1, q2, q3, q4, q5, q6, q7, q8, q9, q10, q11⟩ := (ls.out X hX).cells
                go_simp
              refine wpAnyHI_take (i := 3) (v := .agg #[.int .i64 a1_0, .int .i64 j1, .int .i64 j2]) (fun _ => trivial) rfl (by kernel_rfl) (fun _ _ _ h => h) (Or.inl ⟨by kernel_rfl, fun X hX => ?_⟩) HS0.out ?_
              · obtain ⟨q1, q2, q3, q4, q5, q6, q7, q8, q9, q10, q11⟩ := (ls.out X hX).cells
                go_simp
              refine wpAnyHI_two (i := 2) (j := 4) (fun _ => trivial) rfl rfl (by kernel_rfl) (fun K' hK' => ?_) (fun K' hK' => ?_)
              · rw [if_pos (by kernel_rfl)]
                go_simp
                refine ⟨trivial, (callsIn_wide.2 (api_Reading.calls A0_1 c0_1 l0_1 l0_1 _ (HR.out _ (ls.out _ HS0.out).hb) HC0.out hcl)).mono ?_⟩
                rintro e W8 ⟨v, rfl, hR8, hb8⟩
                dsimp only
                have hs8 := hb8.size
                have OK8 := Aside0.mk ((ls.out _ HS0.out).step hb8)
                refine hK' _ _ (lt.out _ OK8.out) ?_
                clear hK' K'
                have OK9 := Aside0.mk (OK8.out.step (below_alloc (Below.refl _ _) (clock_Sync.cr a1_0 j1 j2)))
                have HR9 := Aside0.mk (Kd.R_below hR8 (below_alloc (Below.refl _ _) (clock_Sync.cr a1_0 j1 j2)))
                have HG9 := Aside0.mk (blk_new W8 (clock_Sync.cr a1_0 j1 j2))
                have HBs : Aside0 (W7.drew.heap.size ≤ (W8.alloc (clock_Sync.cr a1_0 j1 j2)).heap.size) := ⟨by rw [World.size_alloc]; omega⟩
                have HBw : Aside0 (w.heap.size ≤ W7.drew.heap.size) := ⟨show w.heap.size ≤ W7.heap.size by omega⟩
                have HBB : Aside0 (w.heap.size < W7.drew.heap.size ∧ w.heap.size + 1 < W7.drew.heap.size ∧ w.heap.size + 1 + 1 < W7.drew.heap.size ∧ W7.drew.heap.size ≤ (W8.alloc (clock_Sync.cr a1_0 j1 j2)).heap.size) := ⟨show w.heap.size < W7.heap.size by omega, show w.heap.size + 1 < W7.heap.size by omega, show w.heap.size + 1 + 1 < W7.heap.size by omega, HBs.out⟩
                clear hR8 hb8 hs8
                refine wpAnyHI_one (i := 4) (fun _ => trivial) rfl (by kernel_rfl) (fun K' hK' => ?_)
                rw [if_pos (by kernel_rfl)]
                go_simp
                refine hK' _ _ (lt.out _ OK9.out) ?_
                clear hK' K'
                change wpAnyHI _ _ _ _ _ _ _ _ _ _ _ (W8.alloc (clock_Sync.cr a1_0 j1 j2))
                generalize W8.heap.size = gL at HG9 ⊢
                generalize W8.alloc (clock_Sync.cr a1_0 j1 j2) = W9 at OK9 HR9 HG9 HBs HBB ⊢
                have hgr10 := HR9.out
                obtain ⟨h0R, inner, hown, hreps⟩ := hgr10
                obtain ⟨i0, hi0, hzz⟩ := Option.map_eq_some_iff.1 info58
                simp only [Prod.mk.injEq] at hzz
                obtain ⟨hz0, hz1, hz2⟩ := hzz
                refine wpAnyHI_mid (fun _ => trivial) rfl (by kernel_rfl) (fun K' hK' => ?_)
                rw [if_pos (by kernel_rfl)]
                refine opIn_append (fun _ => trivial) (.tmp 72) (.tmp 74) 52 rfl W7.drew.heap.size 58 i0 _ 3 24 Try.underlying52 hi0 hz0 hz1 hz2 rfl (by decide) v l0_1.length inner rfl hown ⟨gL, 0, none⟩ 1 1 [.int .i64 a1_0, .int .i64 j1, .int .i64 j2] rfl rfl (clock_Sync.lit_ HG9.out) (by simp [Value.oneCell']) (by decide) (by unfold maxLen; omega) (by omega) HBs.out ?_
                rintro g cap W10 hown10 hgr hat hlt
                have HR10 := Aside0.mk (Kd.R_lower (Kd.R_appended (d := k58) (okp := fun _ => False) (p := ⟨a1_0, ⟨j1, j2⟩⟩) h0R hreps (k58_mkM _ _ _ ⟨a1_0, ⟨j1, j2⟩⟩) (fun _ h => h.elim) (fun _ _ => trivial) hown10 hgr (by rcases hat with hat | hat; exact .inl hat.symm; exact .inr ⟨g, rfl, by rw [hat]; exact Nat.le_refl _⟩)) HBw.out)
                have OK10 := Aside0.mk (OK9.out.grown hgr HBB.out.1 HBB.out.2.1 HBB.out.2.2.1 HBB.out.2.2.2 (fun k hk => by have := Kd.R_base HR9.out k hk; exact this) HBw.out)
                clear hgr hat hlt hown10 h0R hreps
                refine hK' _ _ ?_
                clear hK' K'
                refine wpAnyIn_take1 (i := 6) (v := .slice (some ⟨g, 0, none⟩) (l0_1.length + 1) cap) (fun _ => trivial) rfl (by kernel_rfl) (Or.inl ⟨by kernel_rfl, fun X hX => ?_⟩) ?_
                · go_simp
                refine wpAnyIn_done (by kernel_rfl) ?_ _
                go_simp
                go_wp2_with fail
                refine (wpIn_wide (n := 3)).1 ?_
                obtain ⟨L, hL⟩ : ∃ L : Int, (l0_1.length : Int) + 1 = L := ⟨_, rfl⟩
                have hwL : IntKind.i64.wrap (L - 16) = L - 16 := by rw [IntKind.wrap_i64]; omega
                obtain ⟨J2, hJ2⟩ : ∃ J2 : Int, (if 16 < L then L - 16 else 0) = J2 := ⟨_, rfl⟩
                have hJ20 : 0 ≤ J2 ∧ J2 ≤ L ∧ J2.toNat = l0_1.length + 1 - 16 := by rw [← hJ2]; split <;> omega
                have hcut := cut_from (P := Try.prog) 52 58 .i64 Try.underlying52 hi0 3 hz1 (some ⟨g, 0, none⟩) (l0_1.length + 1) cap J2 hJ20.1 (by rw [Int.natCast_add]; have := hJ20.2.1; omega)
                rw [hJ20.2.2] at hcut
                have hq : Kd.Q k58 58 W10 w.heap.size (fun _ => True) (.slice (if cap = l0_1.length + 1 - 16 then some ⟨g, 0, none⟩ else (some (⟨g, 0, none⟩ : Addr)).map (·.add ((l0_1.length + 1 - 16) * 3))) (l0_1.length + 1 - (l0_1.length + 1 - 16)) (cap - (l0_1.length + 1 - 16))) ((l0_1 ++ ([⟨a1_0, ⟨j1, j2⟩⟩] : List S58)).drop (l0_1.length + 1 - 16)) := Kd.Q_drop (Kd.Q_of_R HR10.out) (by rw [List.length_append, List.length_singleton]; omega)
                generalize (if cap = l0_1.length + 1 - 16 then some ⟨g, 0, none⟩ else (some (⟨g, 0, none⟩ : Addr)).map (·.add ((l0_1.length + 1 - 16) * 3))) = AQ at hcut hq
                generalize l0_1.length + 1 - (l0_1.length + 1 - 16) = nQ at hcut hq
                generalize cap - (l0_1.length + 1 - 16) = cQ at hcut hq
                have HQ := Aside0.mk hq
                clear hq hJ20
                have HS1 : Aside0 (S W10.drew) := ⟨lt.out _ (OK10.out.step (below_drew (Below.refl _ _)))⟩
                refine wpIn_region_held S 9 hmix ?_
                refine wpAnyHI_take (i := 0) (v := .pointer (some ⟨w.heap.size, 0, none⟩)) (fun _ => trivial) rfl (by kernel_rfl) (fun _ _ _ h => h) (Or.inl ⟨by kernel_rfl, fun X hX => ?_⟩) HS1.out ?_
                · go_simp
                refine wpAnyHI_take (i := 1) (v := .int .i64 a0_0) (fun _ => trivial) rfl (by kernel_rfl) (fun _ _ _ h => h) (Or.inl ⟨by kernel_rfl, fun X hX => ?_⟩) HS1.out ?_
                · obtain ⟨q1, q2, q3, q4, q5, q6, q7, q8, q9, q10, q11⟩ := (ls.out X hX).cells
                  go_simp
                refine wpAnyHI_take (i := 2) (v := .slice (some ⟨g, 0, none⟩) (l0_1.length + 1) cap) (fun _ => trivial) rfl (by kernel_rfl) (fun _ _ _ h => h) (Or.inl ⟨by kernel_rfl, fun X hX => ?_⟩) HS1.out ?_
                · go_simp
                refine wpAnyHI_take (i := 3) (v := .slice (some ⟨g, 0, none⟩) (l0_1.length + 1) cap) (fun _ => trivial) rfl (by kernel_rfl) (fun _ _ _ h => h) (Or.inl ⟨by kernel_rfl, fun X hX => ?_⟩) HS1.out ?_
                · go_simp
                refine wpAnyHI_take (i := 4) (v := .int .i64 L) (fun _ => trivial) rfl (by kernel_rfl) (fun _ _ _ h => h) (Or.inl ⟨by kernel_rfl, fun X hX => ?_⟩) HS1.out ?_
                · go_simp
                refine wpAnyHI_take (i := 5) (v := .int .i64 (L - 16)) (fun _ => trivial) rfl (by kernel_rfl) (fun _ _ _ h => h) (Or.inl ⟨by kernel_rfl, fun X hX => ?_⟩) HS1.out ?_
                · go_simp
                refine wpAnyHI_take (i := 6) (v := .int .i64 J2) (fun _ => trivial) rfl (by kernel_rfl) (fun _ _ _ h => h) (Or.inl ⟨by kernel_rfl, fun X hX => ?_⟩) HS1.out ?_
                · go_simp
                refine wpAnyHI_take (i := 7) (v := .slice AQ nQ cQ) (fun _ => trivial) rfl (by kernel_rfl) (fun _ _ _ h => h) (Or.inl ⟨by kernel_rfl, fun X hX => ?_⟩) HS1.out ?_
                · have := hcut X
                  go_simp
                refine wpAnyHI_take (i := 8) (v := .agg #[.int .i64 a0_0, .slice AQ nQ cQ]) (fun _ => trivial) rfl (by kernel_rfl) (fun _ _ _ h => h) (Or.inl ⟨by kernel_rfl, fun X hX => ?_⟩) HS1.out ?_
                · go_simp
                refine wpAnyHI_mid (fun _ => trivial) rfl (by kernel_rfl) (fun K' hK' => ?_)
                rw [if_pos (by kernel_rfl)]
                obtain ⟨q1, q2, q3, q4, q5, q6, q7, q8, q9, q10, q11⟩ := OK10.out.cells
                go_simp
                refine hK' _ _ ?_
                clear hK' K'
                refine wpAnyIn_take1 (i := 10) (v := .int .i64 0) (fun _ => trivial) rfl (by kernel_rfl) (Or.inl ⟨by kernel_rfl, fun X hX => ?_⟩) ?_
                · go_simp
                refine wpAnyIn_done (by kernel_rfl) ?_ _
                go_simp
                go_wp2
                have hz1_ := blk_put (cs := #[.int .i64 0, .slice none 0 0]) OK10.out.gz 0 (.int .i64 a0_0) rfl
                have hz2_ := blk_put (cs := #[.int .i64 a0_0, .slice none 0 0]) hz1_ 1 (.slice AQ nQ cQ) rfl
                refine bodyPost_ret (results_ct rfl _ _ (w.heap.size + 1 + 1) 54 #[.int .i64 a0_0, .slice AQ nQ cQ] (0, 0) _ rfl (blk_drew hz2_) hu54 rfl (by kernel_rfl)) rfl ?_
                exact ⟨_, rfl, Kd.Q_drew (Kd.Q_set (Kd.Q_set HQ.out OK10.out.gz (by decide) 0 _) hz1_ (by decide) 1 _), below_drew (below_set (below_set OK10.out.hb (by omega)) (by omega))⟩
              · rw [if_pos (by kernel_rfl)]
                go_simp
                have OK8 := Aside0.mk ((ls.out _ HS0.out).step (below_alloc (Below.refl _ _) (clock_Sync.cr a1_0 j1 j2)))
                have hg8 := blk_new W7.drew (clock_Sync.cr a1_0 j1 j2)
                refine hK' _ _ (lt.out _ OK8.out) ?_
                clear hK' K'
                refine wpAnyHI_one (i := 2) (fun _ => trivial) rfl (by kernel_rfl) (fun K' hK' => ?_)
                rw [if_pos (by kernel_rfl)]
                go_simp
                refine ⟨trivial, (callsIn_wide.2 (api_Reading.calls A0_1 c0_1 l0_1 l0_1 (W7.drew.alloc (clock_Sync.cr a1_0 j1 j2)) (HR.out _ OK8.out.hb) HC0.out hcl)).mono ?_⟩
                rintro e W9 ⟨v, rfl, hR9, hb9⟩
                dsimp only
                have hs9 := hb9.size
                have OK9 := Aside0.mk (OK8.out.step hb9)
                have HR9 := Aside0.mk hR9
                have HG9 := Aside0.mk (blk_below hg8 hb9)
                have HBs : Aside0 ((W7.drew.alloc (clock_Sync.cr a1_0 j1 j2)).heap.size ≤ W9.heap.size) := ⟨hs9⟩
                have hsz8 : (W7.drew.alloc (clock_Sync.cr a1_0 j1 j2)).heap.size = W7.heap.size + 1 := World.size_alloc _ _
                have HBw : Aside0 (w.heap.size ≤ (W7.drew.alloc (clock_Sync.cr a1_0 j1 j2)).heap.size) := ⟨by omega⟩
                have HBB : Aside0 (w.heap.size < (W7.drew.alloc (clock_Sync.cr a1_0 j1 j2)).heap.size ∧ w.heap.size + 1 < (W7.drew.alloc (clock_Sync.cr a1_0 j1 j2)).heap.size ∧ w.heap.size + 1 + 1 < (W7.drew.alloc (clock_Sync.cr a1_0 j1 j2)).heap.size ∧ (W7.drew.alloc (clock_Sync.cr a1_0 j1 j2)).heap.size ≤ W9.heap.size) := ⟨by omega, by omega, by omega, HBs.out⟩
                refine hK' _ _ (lt.out _ OK9.out) ?_
                clear hK' K' hR9 hb9 hs9 hsz8 hg8
                change Aside0 (W9.heap[W7.heap.size]? = _) at HG9
                generalize W7.heap.size = gL at HG9 ⊢
                have hgr10 := HR9.out
                obtain ⟨h0R, inner, hown, hreps⟩ := hgr10
                obtain ⟨i0, hi0, hzz⟩ := Option.map_eq_some_iff.1 info58
                simp only [Prod.mk.injEq] at hzz
                obtain ⟨hz0, hz1, hz2⟩ := hzz
                refine wpAnyHI_mid (fun _ => trivial) rfl (by kernel_rfl) (fun K' hK' => ?_)
                rw [if_pos (by kernel_rfl)]
                refine opIn_append (fun _ => trivial) (.tmp 72) (.tmp 74) 52 rfl (W7.drew.alloc (clock_Sync.cr a1_0 j1 j2)).heap.size 58 i0 _ 3 24 Try.underlying52 hi0 hz0 hz1 hz2 rfl (by decide) v l0_1.length inner rfl hown ⟨gL, 0, none⟩ 1 1 [.int .i64 a1_0, .int .i64 j1, .int .i64 j2] rfl rfl (clock_Sync.lit_ HG9.out) (by simp [Value.oneCell']) (by decide) (by unfold maxLen; omega) (by omega) HBs.out ?_
                rintro g cap W10 hown10 hgr hat hlt
                have HR10 := Aside0.mk (Kd.R_lower (Kd.R_appended (d := k58) (okp := fun _ => False) (p := ⟨a1_0, ⟨j1, j2⟩⟩) h0R hreps (k58_mkM _ _ _ ⟨a1_0, ⟨j1, j2⟩⟩) (fun _ h => h.elim) (fun _ _ => trivial) hown10 hgr (by rcases hat with hat | hat; exact .inl hat.symm; exact .inr ⟨g, rfl, by rw [hat]; exact Nat.le_refl _⟩)) HBw.out)
                have OK10 := Aside0.mk (OK9.out.grown hgr HBB.out.1 HBB.out.2.1 HBB.out.2.2.1 HBB.out.2.2.2 (fun k hk => by have := Kd.R_base HR9.out k hk; exact this) HBw.out)
                clear hgr hat hlt hown10 h0R hreps
                refine hK' _ _ ?_
                clear hK' K'
                refine wpAnyIn_take1 (i := 6) (v := .slice (some ⟨g, 0, none⟩) (l0_1.length + 1) cap) (fun _ => trivial) rfl (by kernel_rfl) (Or.inl ⟨by kernel_rfl, fun X hX => ?_⟩) ?_
                · go_simp
                refine wpAnyIn_done (by kernel_rfl) ?_ _
                go_simp
                go_wp2_with fail
                refine (wpIn_wide (n := 3)).1 ?_
                obtain ⟨L, hL⟩ : ∃ L : Int, (l0_1.length : Int) + 1 = L := ⟨_, rfl⟩
                have hwL : IntKind.i64.wrap (L - 16) = L - 16 := by rw [IntKind.wrap_i64]; omega
                obtain ⟨J2, hJ2⟩ : ∃ J2 : Int, (if 16 < L then L - 16 else 0) = J2 := ⟨_, rfl⟩
                have hJ20 : 0 ≤ J2 ∧ J2 ≤ L ∧ J2.toNat = l0_1.length + 1 - 16 := by rw [← hJ2]; split <;> omega
                have hcut := cut_from (P := Try.prog) 52 58 .i64 Try.underlying52 hi0 3 hz1 (some ⟨g, 0, none⟩) (l0_1.length + 1) cap J2 hJ20.1 (by rw [Int.natCast_add]; have := hJ20.2.1; omega)
                rw [hJ20.2.2] at hcut
                have hq : Kd.Q k58 58 W10 w.heap.size (fun _ => True) (.slice (if cap = l0_1.length + 1 - 16 then some ⟨g, 0, none⟩ else (some (⟨g, 0, none⟩ : Addr)).map (·.add ((l0_1.length + 1 - 16) * 3))) (l0_1.length + 1 - (l0_1.length + 1 - 16)) (cap - (l0_1.length + 1 - 16))) ((l0_1 ++ ([⟨a1_0, ⟨j1, j2⟩⟩] : List S58)).drop (l0_1.length + 1 - 16)) := Kd.Q_drop (Kd.Q_of_R HR10.out) (by rw [List.length_append, List.length_singleton]; omega)
                generalize (if cap = l0_1.length + 1 - 16 then some ⟨g, 0, none⟩ else (some (⟨g, 0, none⟩ : Addr)).map (·.add ((l0_1.length + 1 - 16) * 3))) = AQ at hcut hq
                generalize l0_1.length + 1 - (l0_1.length + 1 - 16) = nQ at hcut hq
                generalize cap - (l0_1.length + 1 - 16) = cQ at hcut hq
                have HQ := Aside0.mk hq
                clear hq hJ20
                have HS1 : Aside0 (S W10.drew) := ⟨lt.out _ (OK10.out.step (below_drew (Below.refl _ _)))⟩
                refine wpIn_region_held S 9 hmix ?_
                refine wpAnyHI_take (i := 0) (v := .pointer (some ⟨w.heap.size, 0, none⟩)) (fun _ => trivial) rfl (by kernel_rfl) (fun _ _ _ h => h) (Or.inl ⟨by kernel_rfl, fun X hX => ?_⟩) HS1.out ?_
                · go_simp
                refine wpAnyHI_take (i := 1) (v := .int .i64 a0_0) (fun _ => trivial) rfl (by kernel_rfl) (fun _ _ _ h => h) (Or.inl ⟨by kernel_rfl, fun X hX => ?_⟩) HS1.out ?_
                · obtain ⟨q1, q2, q3, q4, q5, q6, q7, q8, q9, q10, q11⟩ := (ls.out X hX).cells
                  go_simp
                refine wpAnyHI_take (i := 2) (v := .slice (some ⟨g, 0, none⟩) (l0_1.length + 1) cap) (fun _ => trivial) rfl (by kernel_rfl) (fun _ _ _ h => h) (Or.inl ⟨by kernel_rfl, fun X hX => ?_⟩) HS1.out ?_
                · go_simp
                refine wpAnyHI_take (i := 3) (v := .slice (some ⟨g, 0, none⟩) (l0_1.length + 1) cap) (fun _ => trivial) rfl (by kernel_rfl) (fun _ _ _ h => h) (Or.inl ⟨by kernel_rfl, fun X hX => ?_⟩) HS1.out ?_
                · go_simp
                refine wpAnyHI_take (i := 4) (v := .int .i64 L) (fun _ => trivial) rfl (by kernel_rfl) (fun _ _ _ h => h) (Or.inl ⟨by kernel_rfl, fun X hX => ?_⟩) HS1.out ?_
                · go_simp
                refine wpAnyHI_take (i := 5) (v := .int .i64 (L - 16)) (fun _ => trivial) rfl (by kernel_rfl) (fun _ _ _ h => h) (Or.inl ⟨by kernel_rfl, fun X hX => ?_⟩) HS1.out ?_
                · go_simp
                refine wpAnyHI_take (i := 6) (v := .int .i64 J2) (fun _ => trivial) rfl (by kernel_rfl) (fun _ _ _ h => h) (Or.inl ⟨by kernel_rfl, fun X hX => ?_⟩) HS1.out ?_
                · go_simp
                refine wpAnyHI_take (i := 7) (v := .slice AQ nQ cQ) (fun _ => trivial) rfl (by kernel_rfl) (fun _ _ _ h => h) (Or.inl ⟨by kernel_rfl, fun X hX => ?_⟩) HS1.out ?_
                · have := hcut X
                  go_simp
                refine wpAnyHI_take (i := 8) (v := .agg #[.int .i64 a0_0, .slice AQ nQ cQ]) (fun _ => trivial) rfl (by kernel_rfl) (fun _ _ _ h => h) (Or.inl ⟨by kernel_rfl, fun X hX => ?_⟩) HS1.out ?_
                · go_simp
                refine wpAnyHI_mid (fun _ => trivial) rfl (by kernel_rfl) (fun K' hK' => ?_)
                rw [if_pos (by kernel_rfl)]
                obtain ⟨q1, q2, q3, q4, q5, q6, q7, q8, q9, q10, q11⟩ := OK10.out.cells
                go_simp
                refine hK' _ _ ?_
                clear hK' K'
                refine wpAnyIn_take1 (i := 10) (v := .int .i64 0) (fun _ => trivial) rfl (by kernel_rfl) (Or.inl ⟨by kernel_rfl, fun X hX => ?_⟩) ?_
                · go_simp
                refine wpAnyIn_done (by kernel_rfl) ?_ _
                go_simp
                go_wp2
                have hz1_ := blk_put (cs := #[.int .i64 0, .slice none 0 0]) OK10.out.gz 0 (.int .i64 a0_0) rfl
                have hz2_ := blk_put (cs := #[.int .i64 a0_0, .slice none 0 0]) hz1_ 1 (.slice AQ nQ cQ) rfl
                refine bodyPost_ret (results_ct rfl _ _ (w.heap.size + 1 + 1) 54 #[.int .i64 a0_0, .slice AQ nQ cQ] (0, 0) _ rfl (blk_drew hz2_) hu54 rfl (by kernel_rfl)) rfl ?_
                exact ⟨_, rfl, Kd.Q_drew (Kd.Q_set (Kd.Q_set HQ.out OK10.out.gz (by decide) 0 _) hz1_ (by decide) 1 _), below_drew (below_set (below_set OK10.out.hb (by omega)) (by omega))⟩
            · rw [if_neg cj] at h
              have cj1 : (j3 == 0) = false := beq_eq_false_iff_ne.mpr cj
              have cj2 : (j3 != 0) = true := bne_iff_ne.mpr cj
              simp only [Option.some.injEq, Prod.mk.injEq] at h
              obtain ⟨rfl, rfl, rfl⟩ := h
              go_wp2
              refine bodyPost_ret (results_ct rfl _ _ (w.heap.size + 1 + 1) 54 #[.int .i64 0, .slice none 0 0] (0, 0) _ rfl (blk_put (cs := #[.int .i64 0, .slice none 0 0]) (blk_put (cs := #[.int .i64 0, .slice none 0 0]) OK7.out.gz 0 _ rfl) 1 _ rfl) hu54 rfl (by kernel_rfl)) rfl ?_
              exact ⟨_, rfl, Kd.Q_nil _ _ _ _ _, below_set (below_set OK7.out.hb (by omega)) (by omega)⟩
          · rw [if_neg cn] at h
            have cn1 : (n3 == 0) = false := beq_eq_false_iff_ne.mpr cn
            have cn2 : (n3 != 0) = true := bne_iff_ne.mpr cn
            simp only [Option.some.injEq, Prod.mk.injEq] at h
            obtain ⟨rfl, rfl, rfl⟩ := h
            go_wp2
            refine bodyPost_ret (results_ct rfl _ _ (w.heap.size + 1 + 1) 54 #[.int .i64 0, .slice none 0 0] (0, 0) _ rfl (blk_put (cs := #[.int .i64 0, .slice none 0 0]) (blk_put (cs := #[.int .i64 0, .slice none 0 0]) OK5.out.gz 0 _ rfl) 1 _ rfl) hu54 rfl (by kernel_rfl)) rfl ?_
            exact ⟨_, rfl, Kd.Q_nil _ _ _ _ _, below_set (below_set OK5.out.hb (by omega)) (by omega)⟩
  · rw [if_neg ct] at h
    have ct1 : (t == 0) = false := beq_eq_false_iff_ne.mpr ct
    have ct2 : (t != 0) = true := bne_iff_ne.mpr ct
    simp only [Option.some.injEq, Prod.mk.injEq] at h
    obtain ⟨rfl, rfl, rfl⟩ := h
    obtain ⟨q1, q2, q3, q4, q5, q6, q7, q8, q9, q10, q11⟩ := OK1.out.cells
    go_wp2
    refine bodyPost_ret (results_ct rfl _ _ (w.heap.size + 1 + 1) 54 #[.int .i64 0, .slice none 0 0] (0, 0) _ rfl (blk_put (cs := #[.int .i64 0, .slice none 0 0]) (blk_put (cs := #[.int .i64 0, .slice none 0 0]) OK1.out.gz 0 _ rfl) 1 _ rfl) hu54 rfl (by kernel_rfl)) rfl ?_
    exact ⟨_, rfl, Kd.Q_nil _ _ _ _ _, below_set (below_set OK1.out.hb (by omega)) (by omega)⟩
open Go.Proofs.YteknbadjfojmbaaW.PrintWords.Kd renaming R_alloc → za_, R_drewN → zb_, R_drew → zc_, R_lower → zg_, R_reads' → zl_
open Go.Proofs.YteknbadjfojmbaaW.PrintWords renaming blk_drewN → zm_, blk_drew → zn_, blk_alloc → zo_, blk_below → zq_, below_set → zr_, below_alloc → zs_, pw_below_drewN → zt_, below_drew1 → zu_, below_step → zv_, below_size → zw_
def clock_Answer.f (k : Nat) (a0_0 : Int) (l0_1 : List (S58)) (a1 : Int) (a2 : Int) (a3_0 : Int) (a3_1 : Int) : Option (Int × Int × Int × Int) := (clock_Check.f k a0_0 l0_1).bind fun t440 => (if t440 = 0 then ((clock_instants.f (([a1, a2] : List Int))).bind fun t444 => (if t444 = true then (if a1 > a2 then (some (0, 0, 0, 3)) else ((clock_valid.f a3_0 a3_1).bind fun t445 => (if t445 = true then ((clock_passed.f a0_0 (wrap64 (a2 - a1))).bind fun bt446 => (some (a2, a3_0, mn 3600000000 (wrap64 (a3_1 + bt446.2)), 0))) else (some (0, 0, 0, 3))))) else (some (0, 0, 0, 3)))) else (some (0, 0, 0, t440)))
set_option maxHeartbeats 8000000 in
set_option maxRecDepth 100000 in
theorem clock_Answer.calls (k : Nat) (a0_0 : Int) (A0_1 : Option Addr) (c0_1 : Nat) (l0_1 : List (S58)) (a1 : Int) (a2 : Int) (a3_0 : Int) (a3_1 : Int) (r1 : Int) (r2 : Int) (r3 : Int) (r4 : Int) (w : World) (hr0_1 : Kd.C k58 w A0_1 l0_1.length l0_1) (hc0_1 : l0_1.length ≤ c0_1) (h : clock_Answer.f k a0_0 l0_1 a1 a2 a3_0 a3_1 = some (r1, r2, r3, r4)) :
    Calls Try.prog 46 #[.agg #[.int .i64 a0_0, .slice A0_1 l0_1.length c0_1], .int .i64 a1, .int .i64 a2, .agg #[.int .i64 a3_0, .int .i64 a3_1]] w fun e w' => e = .returned (.tuple #[.agg #[.int .i64 r1, .int .i64 r2, .int .i64 r3], .int .i64 r4]) ∧ Below w.heap.size w w' := by
  have hu54 := Try.underlying54
  have hu56 := Try.underlying56
  have hu58 := Try.underlying58
  have HR0_1 := Aside0.mk hr0_1
  have HC0_1 := Aside0.mk hc0_1
  clear hr0_1 hc0_1
  have HB := Aside0.mk (Below.refl w.heap.size w)
  have H : ((clock_Check.f k a0_0 l0_1).bind fun t440 => (if t440 = 0 then ((clock_instants.f (([a1, a2] : List Int))).bind fun t444 => (if t444 = true then (if a1 > a2 then (some (0, 0, 0, 3)) else ((clock_valid.f a3_0 a3_1).bind fun t445 => (if t445 = true then ((clock_passed.f a0_0 (wrap64 (a2 - a1))).bind fun bt446 => (some (a2, a3_0, mn 3600000000 (wrap64 (a3_1 + bt446.2)), 0))) else (some (0, 0, 0, 3))))) else (some (0, 0, 0, 3)))) else (some (0, 0, 0, t440)))) = some (r1, r2, r3, r4) := h
  clear h
  replace H := Option.bind_eq_some_iff.mp H
  obtain ⟨t440, A50, H⟩ := H
  replace H : (if t440 = 0 then ((clock_instants.f (([a1, a2] : List Int))).bind fun t444 => (if t444 = true then (if a1 > a2 then (some (0, 0, 0, 3)) else ((clock_valid.f a3_0 a3_1).bind fun t445 => (if t445 = true then ((clock_passed.f a0_0 (wrap64 (a2 - a1))).bind fun bt446 => (some (a2, a3_0, mn 3600000000 (wrap64 (a3_1 + bt446.2)), 0))) else (some (0, 0, 0, 3))))) else (some (0, 0, 0, 3)))) else (some (0, 0, 0, t440))) = some (r1, r2, r3, r4) := H
  have A5 := Aside0.mk A50
  clear A50
  by_cases c6 : t440 = 0
  · rw [if_pos c6] at H
    have c6b0 : (t440 == 0) = true := beq_iff_eq.mpr c6
    have c6b1 : (t440 != 0) = false := bne_eq_false_iff_eq.mpr c6
    clear c6
    obtain ⟨y441, hy441⟩ : ∃ y_ : List Int, y_ = (([a1, a2] : List Int)) := ⟨_, rfl⟩
    replace H : ((clock_instants.f y441).bind fun t444 => (if t444 = true then (if a1 > a2 then (some (0, 0, 0, 3)) else ((clock_valid.f a3_0 a3_1).bind fun t445 => (if t445 = true then ((clock_passed.f a0_0 (wrap64 (a2 - a1))).bind fun bt446 => (some (a2, a3_0, mn 3600000000 (wrap64 (a3_1 + bt446.2)), 0))) else (some (0, 0, 0, 3))))) else (some (0, 0, 0, 3)))) = some (r1, r2, r3, r4) := by first | (rw [hy441]; with_reducible exact H) | (have H2_ := (Option.bind_some _ _).symm.trans H; rw [hy441]; with_reducible exact H2_) | (have H2_ := (Option.bind_some _ _).symm.trans H; with_reducible exact H2_) | with_reducible exact H | (rw [hy441]; exact H) | exact H
    have Ny441 := Aside0.mk hy441
    clear hy441
    replace H := Option.bind_eq_some_iff.mp H
    obtain ⟨t444, A70, H⟩ := H
    replace H : (if t444 = true then (if a1 > a2 then (some (0, 0, 0, 3)) else ((clock_valid.f a3_0 a3_1).bind fun t445 => (if t445 = true then ((clock_passed.f a0_0 (wrap64 (a2 - a1))).bind fun bt446 => (some (a2, a3_0, mn 3600000000 (wrap64 (a3_1 + bt446.2)), 0))) else (some (0, 0, 0, 3))))) else (some (0, 0, 0, 3))) = some (r1, r2, r3, r4) := H
    have A7 := Aside0.mk A70
    clear A70
    by_cases c8 : t444 = true
    · subst c8
      have H1 : (if a1 > a2 then (some (0, 0, 0, 3)) else ((clock_valid.f a3_0 a3_1).bind fun t445 => (if t445 = true then ((clock_passed.f a0_0 (wrap64 (a2 - a1))).bind fun bt446 => (some (a2, a3_0, mn 3600000000 (wrap64 (a3_1 + bt446.2)), 0))) else (some (0, 0, 0, 3))))) = some (r1, r2, r3, r4) := by rw [if_pos rfl] at H; exact H
      clear H
      have H := H1
      clear H1
      by_cases c9 : a1 > a2
      · rw [if_pos c9] at H
        have c9b0 : decide (a2 < a1) = true := decide_eq_true c9
        clear c9
        simp only [Option.some.injEq, Prod.mk.injEq] at H
        obtain ⟨rfl, rfl, rfl, rfl⟩ := H
        go_enter Try.func46, Try.ntmps46
        go_wp2_with (first | ((with_reducible refine gate_dst (N := 4) rfl ?_); refine box_event ?hg (N := 4) ?hd (cs := #[.int .i64 a0_0, .slice A0_1 l0_1.length c0_1]) (t := 54) ?hr ?_; (case hd => rfl); (case hg => rfl); (case hr => first | (go_simp; done) | (go_simp; rfl)); intro gb437 hg w10 hbox hb; have n0_ := Aside0.mk (zv_ (by repeat (first | (with_reducible first | exact HB.out | apply zs_ | apply zt_ | apply zu_) | exact HB.out)) hb); have n1_ := Aside0.mk (hbox); have n2_ := Aside0.mk ((by rw [hg]; exact (zw_ (by repeat (first | (with_reducible first | exact HB.out | apply zs_ | apply zt_ | apply zu_) | exact HB.out))) : w.heap.size ≤ gb437)); have n3_ := Aside0.mk ((by rw [hg]; exact (zw_ (by repeat (first | (with_reducible first | exact HB.out | apply zs_ | apply zt_ | apply zu_) | exact HB.out))) : w.heap.size ≤ gb437)); clear HB; have HB := n0_; have BK437 := n1_; have GW437 := n2_; have GE437 := n3_; clear n0_ n1_ n2_ n3_; clear hb hbox hg) | ((with_reducible refine gate_dst (N := 7) rfl ?_); refine box_event ?hg (N := 7) ?hd (cs := #[.int .i64 a3_0, .int .i64 a3_1]) (t := 56) ?hr ?_; (case hd => rfl); (case hg => rfl); (case hr => first | (go_simp; done) | (go_simp; rfl)); intro gb438 hg w11 hbox hb; have n0_ := Aside0.mk (zq_ (g := gb437) (o := .cells #[.int .i64 a0_0, .slice A0_1 l0_1.length c0_1] 54 (0, 0)) (by (with_reducible repeat (first | refine zm_ ?_ _ | refine zn_ ?_ | refine zo_ ?_ _)); exact BK437.out) hb); have n1_ := Aside0.mk (zv_ (by repeat (first | (with_reducible first | exact HB.out | apply zs_ | apply zt_ | apply zu_ | refine zr_ ?_ GE437.out) | exact HB.out)) hb); have n2_ := Aside0.mk (hbox); have n3_ := Aside0.mk ((by rw [hg]; exact (zw_ (by repeat (first | (with_reducible first | exact HB.out | apply zs_ | apply zt_ | apply zu_ | refine zr_ ?_ GE437.out) | exact HB.out))) : w.heap.size ≤ gb438)); have n4_ := Aside0.mk ((by rw [hg]; exact (zw_ (by repeat (first | (with_reducible first | exact HB.out | apply zs_ | apply zt_ | apply zu_ | refine zr_ ?_ GE437.out) | exact HB.out))) : w.heap.size ≤ gb438)); have n5_ := Aside0.mk ((by rw [hg]; exact Nat.ne_of_lt (blk_lt (g := gb437) (o := .cells #[.int .i64 a0_0, .slice A0_1 l0_1.length c0_1] 54 (0, 0)) (by (with_reducible repeat (first | refine zm_ ?_ _ | refine zn_ ?_ | refine zo_ ?_ _)); exact BK437.out)) : gb437 ≠ gb438)); have n6_ := Aside0.mk ((by rw [hg]; exact Nat.ne_of_gt (blk_lt (g := gb437) (o := .cells #[.int .i64 a0_0, .slice A0_1 l0_1.length c0_1] 54 (0, 0)) (by (with_reducible repeat (first | refine zm_ ?_ _ | refine zn_ ?_ | refine zo_ ?_ _)); exact BK437.out)) : gb438 ≠ gb437)); clear BK437; clear HB; have BK437 := n0_; have HB := n1_; have BK438 := n2_; have GW438 := n3_; have GE438 := n4_; have NB437_438 := n5_; have NB438_437 := n6_; clear n0_ n1_ n2_ n3_ n4_ n5_ n6_; clear hb hbox hg) | ((with_reducible refine gate_dst (N := 8) rfl ?_); refine box_event ?hg (N := 8) ?hd (cs := #[.int .i64 0, .int .i64 0, .int .i64 0]) (t := 58) ?hr ?_; (case hd => rfl); (case hg => rfl); (case hr => first | (go_simp; done) | (go_simp; rfl)); intro gb439 hg w12 hbox hb; have n0_ := Aside0.mk (zq_ (g := gb437) (o := .cells #[.int .i64 a0_0, .slice A0_1 l0_1.length c0_1] 54 (0, 0)) (by (with_reducible repeat (first | refine zm_ ?_ _ | refine zn_ ?_ | refine zo_ ?_ _)); exact BK437.out) hb); have n1_ := Aside0.mk (zq_ (g := gb438) (o := .cells #[.int .i64 a3_0, .int .i64 a3_1] 56 (0, 0)) (by (with_reducible repeat (first | refine zm_ ?_ _ | refine zn_ ?_ | refine zo_ ?_ _)); exact BK438.out) hb); have n2_ := Aside0.mk (zv_ (by repeat (first | (with_reducible first | exact HB.out | apply zs_ | apply zt_ | apply zu_ | refine zr_ ?_ GE437.out | refine zr_ ?_ GE438.out) | exact HB.out)) hb); have n3_ := Aside0.mk (hbox); have n4_ := Aside0.mk ((by rw [hg]; exact (zw_ (by repeat (first | (with_reducible first | exact HB.out | apply zs_ | apply zt_ | apply zu_ | refine zr_ ?_ GE437.out | refine zr_ ?_ GE438.out) | exact HB.out))) : w.heap.size ≤ gb439)); have n5_ := Aside0.mk ((by rw [hg]; exact (zw_ (by repeat (first | (with_reducible first | exact HB.out | apply zs_ | apply zt_ | apply zu_ | refine zr_ ?_ GE437.out | refine zr_ ?_ GE438.out) | exact HB.out))) : w.heap.size ≤ gb439)); have n6_ := Aside0.mk ((by rw [hg]; exact Nat.ne_of_lt (blk_lt (g := gb437) (o := .cells #[.int .i64 a0_0, .slice A0_1 l0_1.length c0_1] 54 (0, 0)) (by (with_reducible repeat (first | refine zm_ ?_ _ | refine zn_ ?_ | refine zo_ ?_ _)); exact BK437.out)) : gb437 ≠ gb439)); have n7_ := Aside0.mk ((by rw [hg]; exact Nat.ne_of_gt (blk_lt (g := gb437) (o := .cells #[.int .i64 a0_0, .slice A0_1 l0_1.length c0_1] 54 (0, 0)) (by (with_reducible repeat (first | refine zm_ ?_ _ | refine zn_ ?_ | refine zo_ ?_ _)); exact BK437.out)) : gb439 ≠ gb437)); have n8_ := Aside0.mk ((by rw [hg]; exact Nat.ne_of_lt (blk_lt (g := gb438) (o := .cells #[.int .i64 a3_0, .int .i64 a3_1] 56 (0, 0)) (by (with_reducible repeat (first | refine zm_ ?_ _ | refine zn_ ?_ | refine zo_ ?_ _)); exact BK438.out)) : gb438 ≠ gb439)); have n9_ := Aside0.mk ((by rw [hg]; exact Nat.ne_of_gt (blk_lt (g := gb438) (o := .cells #[.int .i64 a3_0, .int .i64 a3_1] 56 (0, 0)) (by (with_reducible repeat (first | refine zm_ ?_ _ | refine zn_ ?_ | refine zo_ ?_ _)); exact BK438.out)) : gb439 ≠ gb438)); clear BK437; clear BK438; clear HB; have BK437 := n0_; have BK438 := n1_; have HB := n2_; have BK439 := n3_; have GW439 := n4_; have GE439 := n5_; have NB437_439 := n6_; have NB439_437 := n7_; have NB438_439 := n8_; have NB439_438 := n9_; clear n0_ n1_ n2_ n3_ n4_ n5_ n6_ n7_ n8_ n9_; clear hb hbox hg; have hnb13 := NB437_438.out; have hnc13 := NB438_437.out; have hnb14 := NB437_439.out; have hnc14 := NB439_437.out; have hcz15_0 : w12.cell? ⟨gb437, 0, none⟩ = some (.int .i64 a0_0) := (blk_cell BK437.out 0).trans rfl; have hcz15_1 : w12.cell? ⟨gb437, 1, none⟩ = some (.slice A0_1 l0_1.length c0_1) := (blk_cell BK437.out 1).trans rfl; have hfz15_0 := blk_frozen BK437.out 0; have hfz15_1 := blk_frozen BK437.out 1) | ((with_reducible refine gate_callee (f := 43) rfl ?_); refine goesL_ (some 14) rfl rfl Try.func43 (by kernel_rfl) rfl #[.agg #[.int .i64 a0_0, .slice A0_1 l0_1.length c0_1]] rfl (by (try simp only [List.map_toArray, List.map_cons, List.map_nil]); first | done | rfl | (simp only [List.length_drop, List.length_take]; rfl)) ?_; (with_reducible refine (clock_Check.calls k a0_0 _ _ l0_1 t440 _ ?side1 ?side2 A5.out).mono ?_); (case side1 => repeat (first | exact (Kd.C_below HR0_1.out HB.out) | (with_reducible refine Kd.C_alloc ?_ _) | (with_reducible refine Kd.C_drewN ?_ _) | (with_reducible refine Kd.C_drew ?_))); (case side2 => exact HC0_1.out); rintro e w16 ⟨rfl, hb⟩; refine ⟨_, rfl, ?_⟩; have n0_ := Aside0.mk (zq_ (g := gb437) (o := .cells #[.int .i64 a0_0, .slice A0_1 l0_1.length c0_1] 54 (0, 0)) (by (with_reducible repeat (first | refine zm_ ?_ _ | refine zn_ ?_ | refine zo_ ?_ _)); exact BK437.out) hb); have n1_ := Aside0.mk (zq_ (g := gb438) (o := .cells #[.int .i64 a3_0, .int .i64 a3_1] 56 (0, 0)) (by (with_reducible repeat (first | refine zm_ ?_ _ | refine zn_ ?_ | refine zo_ ?_ _)); exact BK438.out) hb); have n2_ := Aside0.mk (zq_ (g := gb439) (o := .cells #[.int .i64 0, .int .i64 0, .int .i64 0] 58 (0, 0)) (by (with_reducible repeat (first | refine zm_ ?_ _ | refine zn_ ?_ | refine zo_ ?_ _)); exact BK439.out) hb); have n3_ := Aside0.mk (zv_ (by repeat (first | (with_reducible first | exact HB.out | apply zs_ | apply zt_ | apply zu_ | refine zr_ ?_ GE437.out | refine zr_ ?_ GE438.out | refine zr_ ?_ GE439.out) | exact HB.out)) hb); clear BK437; clear BK438; clear BK439; clear HB; have BK437 := n0_; have BK438 := n1_; have BK439 := n2_; have HB := n3_; clear n0_ n1_ n2_ n3_; (try clear hb); (try clear hb2); (try clear hk); (try clear hi)) | ((with_reducible refine gate_dst (N := 21) rfl ?_); refine Kd.R_lit (Kd.int .i64) _ 3 ?hg (N := 21) ?hd (xs := ([a1, a2] : List Int)) (inner := [.int .i64 a1, .int .i64 a2]) (ok := fun _ => True) (okp := fun _ => True) ?hr ?hp (fun _ hk => hk) trivial (Below.refl _ _) (Nat.le_refl _) (by simp) ?_; (case hd => rfl); (case hg => rfl); (case hr => first | (go_simp; done) | (go_simp; rfl)); (case hp => exact (Reps.one (show Kd.M (Kd.int .i64) _ _ _ a1 [.int .i64 a1] from rfl) (Reps.one (show Kd.M (Kd.int .i64) _ _ _ a2 [.int .i64 a2] from rfl) (Reps.none _ _)))); intro v442 w17 ho18 hb hg_ hnew_; clear hg_ hnew_; (first | rw [← Ny441.out] at ho18 | (simp only [Int.reduceToNat] at ho18; rw [← Ny441.out] at ho18)); have n0_ := Aside0.mk (zg_ ho18 (zw_ (by repeat (first | (with_reducible first | exact HB.out | apply zs_ | apply zt_ | apply zu_ | refine zr_ ?_ GE437.out | refine zr_ ?_ GE438.out | refine zr_ ?_ GE439.out) | exact HB.out)))); have n1_ := Aside0.mk (zq_ (g := gb437) (o := .cells #[.int .i64 a0_0, .slice A0_1 l0_1.length c0_1] 54 (0, 0)) (by (with_reducible repeat (first | refine zm_ ?_ _ | refine zn_ ?_ | refine zo_ ?_ _)); exact BK437.out) hb); have n2_ := Aside0.mk (zq_ (g := gb438) (o := .cells #[.int .i64 a3_0, .int .i64 a3_1] 56 (0, 0)) (by (with_reducible repeat (first | refine zm_ ?_ _ | refine zn_ ?_ | refine zo_ ?_ _)); exact BK438.out) hb); have n3_ := Aside0.mk (zq_ (g := gb439) (o := .cells #[.int .i64 0, .int .i64 0, .int .i64 0] 58 (0, 0)) (by (with_reducible repeat (first | refine zm_ ?_ _ | refine zn_ ?_ | refine zo_ ?_ _)); exact BK439.out) hb); have n4_ := Aside0.mk (zv_ (by repeat (first | (with_reducible first | exact HB.out | apply zs_ | apply zt_ | apply zu_ | refine zr_ ?_ GE437.out | refine zr_ ?_ GE438.out | refine zr_ ?_ GE439.out) | exact HB.out)) hb); clear BK437; clear BK438; clear BK439; clear HB; have HO443 := n0_; have BK437 := n1_; have BK438 := n2_; have BK439 := n3_; have HB := n4_; clear n0_ n1_ n2_ n3_ n4_; clear hb ho18; obtain ⟨Ao19, co19, eo19⟩ := Kd.R_slice HO443.out; subst eo19) | ((with_reducible refine gate_callee (f := 71) rfl ?_); refine goesL_ (some 22) rfl rfl Try.func71 (by kernel_rfl) rfl #[.slice Ao19 y441.length co19] rfl (by (try simp only [List.map_toArray, List.map_cons, List.map_nil]); first | done | rfl | (simp only [List.length_drop, List.length_take]; rfl)) ?_; (with_reducible refine (clock_instants.calls _ _ y441 true _ ?side1 ?side2 A7.out).mono ?_); (case side1 => repeat (first | exact (zl_ HO443.out).2.2 | (with_reducible refine Kd.C_alloc ?_ _) | (with_reducible refine Kd.C_drewN ?_ _) | (with_reducible refine Kd.C_drew ?_))); (case side2 => exact (zl_ HO443.out).2.1); rintro e w' ⟨rfl, ⟨nd, rfl⟩⟩; refine ⟨_, rfl, ?_⟩; (try (rw [drewN_self w17]; generalize hq_ : World.drewN w17 _ = w17; have n0_ : Aside0 (Kd.R (Kd.int .i64) 3 w17 w.heap.size (fun _ => True) (.slice Ao19 y441.length co19) y441) := ⟨by rw [← hq_]; exact (by (with_reducible repeat (first | apply za_ | apply zb_ | apply zc_)); exact HO443.out)⟩; have n1_ : Aside0 (w17.heap[gb437]? = some (.cells #[.int .i64 a0_0, .slice A0_1 l0_1.length c0_1] 54 (0, 0))) := ⟨by rw [← hq_]; exact (by (with_reducible repeat (first | refine zm_ ?_ _ | refine zn_ ?_ | refine zo_ ?_ _)); exact BK437.out)⟩; have n2_ : Aside0 (w17.heap[gb438]? = some (.cells #[.int .i64 a3_0, .int .i64 a3_1] 56 (0, 0))) := ⟨by rw [← hq_]; exact (by (with_reducible repeat (first | refine zm_ ?_ _ | refine zn_ ?_ | refine zo_ ?_ _)); exact BK438.out)⟩; have n3_ : Aside0 (w17.heap[gb439]? = some (.cells #[.int .i64 0, .int .i64 0, .int .i64 0] 58 (0, 0))) := ⟨by rw [← hq_]; exact (by (with_reducible repeat (first | refine zm_ ?_ _ | refine zn_ ?_ | refine zo_ ?_ _)); exact BK439.out)⟩; have n4_ : Aside0 (Below w.heap.size w w17) := ⟨by rw [← hq_]; exact (by repeat (first | (with_reducible first | exact HB.out | apply zs_ | apply zt_ | apply zu_ | refine zr_ ?_ GE437.out | refine zr_ ?_ GE438.out | refine zr_ ?_ GE439.out) | exact HB.out))⟩; clear HO443 BK437 BK438 BK439 HB hq_; have HO443 := n0_; have BK437 := n1_; have BK438 := n2_; have BK439 := n3_; have HB := n4_; clear n0_ n1_ n2_ n3_ n4_)); have hnb20 := NB439_438.out; have hnc20 := NB438_439.out; have hcz21_0 : w17.cell? ⟨gb439, 0, none⟩ = some (.int .i64 0) := (blk_cell BK439.out 0).trans rfl; have hcz21_1 : w17.cell? ⟨gb439, 1, none⟩ = some (.int .i64 0) := (blk_cell BK439.out 1).trans rfl; have hcz21_2 : w17.cell? ⟨gb439, 2, none⟩ = some (.int .i64 0) := (blk_cell BK439.out 2).trans rfl; have hfz21_0 := blk_frozen BK439.out 0; have hfz21_1 := blk_frozen BK439.out 1; have hfz21_2 := blk_frozen BK439.out 2))
        refine bodyPost_ret (results_ct rfl _ _ gb439 58 #[.int .i64 0, .int .i64 0, .int .i64 0] (0, 0) _ rfl (by (with_reducible repeat (first | refine zm_ ?_ _ | refine zn_ ?_ | refine zo_ ?_ _)); refine blk_put (cs := #[.int .i64 0, .int .i64 0, .int .i64 0]) ?_ 2 _ rfl; (with_reducible repeat (first | refine zm_ ?_ _ | refine zn_ ?_ | refine zo_ ?_ _)); refine blk_put (cs := #[.int .i64 0, .int .i64 0, .int .i64 0]) ?_ 1 _ rfl; (with_reducible repeat (first | refine zm_ ?_ _ | refine zn_ ?_ | refine zo_ ?_ _)); refine blk_put (cs := #[.int .i64 0, .int .i64 0, .int .i64 0]) ?_ 0 _ rfl; (with_reducible repeat (first | refine zm_ ?_ _ | refine zn_ ?_ | refine zo_ ?_ _)); exact BK439.out) Try.underlying58 rfl (by kernel_rfl)) rfl ?_
        exact ⟨by first | rfl | (simp [errW_none, errW_some] <;> rfl) | (simp [*, errW_none, errW_some] <;> rfl), by repeat (first | (with_reducible first | exact HB.out | apply zs_ | apply zt_ | apply zu_ | refine zr_ ?_ GE437.out | refine zr_ ?_ GE438.out | refine zr_ ?_ GE439.out) | exact HB.out)⟩
      · rw [if_neg c9] at H
        have c9b0 : decide (a2 < a1) = false := decide_eq_false c9
        clear c9
        replace H := Option.bind_eq_some_iff.mp H
        obtain ⟨t445, A220, H⟩ := H
        replace H : (if t445 = true then ((clock_passed.f a0_0 (wrap64 (a2 - a1))).bind fun bt446 => (some (a2, a3_0, mn 3600000000 (wrap64 (a3_1 + bt446.2)), 0))) else (some (0, 0, 0, 3))) = some (r1, r2, r3, r4) := H
        have A22 := Aside0.mk A220
        clear A220
        by_cases c23 : t445 = true
        · subst c23
          have H1 : ((clock_passed.f a0_0 (wrap64 (a2 - a1))).bind fun bt446 => (some (a2, a3_0, mn 3600000000 (wrap64 (a3_1 + bt446.2)), 0))) = some (r1, r2, r3, r4) := by rw [if_pos rfl] at H; exact H
          clear H
          have H := H1
          clear H1
          replace H := Option.bind_eq_some_iff.mp H
          obtain ⟨⟨t446, t447⟩, A240, H⟩ := H
          replace H : (some (a2, a3_0, mn 3600000000 (wrap64 (a3_1 + t447)), 0)) = some (r1, r2, r3, r4) := H
          have A24 := Aside0.mk A240
          clear A240
          obtain ⟨ji25, hji25⟩ : ∃ j_ : Int, (mn 3600000000 (wrap64 (a3_1 + t447))) = j_ := ⟨_, rfl⟩
          replace H : (some (a2, a3_0, ji25, 0)) = some (r1, r2, r3, r4) := by first | (rw [hji25] at H; exact H) | (simp only [hji25] at H ⊢; exact H)
          (try rw [hji25] at A5)
          (try rw [hji25] at A7)
          (try rw [hji25] at A22)
          (try rw [hji25] at A24)
          (try (have hji25h : ji25 ≤ 3600000000 := by (rw [← hji25]; unfold mn; (repeat' split) <;> omega)))
          (try (have hji25g : ji25 ≤ 64 := by omega))
          have hji25_ : (if (wrap64 (a3_1 + t447)) < 3600000000 then (wrap64 (a3_1 + t447)) else 3600000000) = ji25 := hji25
          simp only [Option.some.injEq, Prod.mk.injEq] at H
          obtain ⟨rfl, rfl, rfl, rfl⟩ := H
          go_enter Try.func46, Try.ntmps46
          go_wp2_with (first | ((with_reducible refine gate_dst (N := 4) rfl ?_); refine box_event ?hg (N := 4) ?hd (cs := #[.int .i64 a0_0, .slice A0_1 l0_1.length c0_1]) (t := 54) ?hr ?_; (case hd => rfl); (case hg => rfl); (case hr => first | (go_simp; done) | (go_simp; rfl)); intro gb437 hg w26 hbox hb; have n0_ := Aside0.mk (zv_ (by repeat (first | (with_reducible first | exact HB.out | apply zs_ | apply zt_ | apply zu_) | exact HB.out)) hb); have n1_ := Aside0.mk (hbox); have n2_ := Aside0.mk ((by rw [hg]; exact (zw_ (by repeat (first | (with_reducible first | exact HB.out | apply zs_ | apply zt_ | apply zu_) | exact HB.out))) : w.heap.size ≤ gb437)); have n3_ := Aside0.mk ((by rw [hg]; exact (zw_ (by repeat (first | (with_reducible first | exact HB.out | apply zs_ | apply zt_ | apply zu_) | exact HB.out))) : w.heap.size ≤ gb437)); clear HB; have HB := n0_; have BK437 := n1_; have GW437 := n2_; have GE437 := n3_; clear n0_ n1_ n2_ n3_; clear hb hbox hg) | ((with_reducible refine gate_dst (N := 7) rfl ?_); refine box_event ?hg (N := 7) ?hd (cs := #[.int .i64 a3_0, .int .i64 a3_1]) (t := 56) ?hr ?_; (case hd => rfl); (case hg => rfl); (case hr => first | (go_simp; done) | (go_simp; rfl)); intro gb438 hg w27 hbox hb; have n0_ := Aside0.mk (zq_ (g := gb437) (o := .cells #[.int .i64 a0_0, .slice A0_1 l0_1.length c0_1] 54 (0, 0)) (by (with_reducible repeat (first | refine zm_ ?_ _ | refine zn_ ?_ | refine zo_ ?_ _)); exact BK437.out) hb); have n1_ := Aside0.mk (zv_ (by repeat (first | (with_reducible first | exact HB.out | apply zs_ | apply zt_ | apply zu_ | refine zr_ ?_ GE437.out) | exact HB.out)) hb); have n2_ := Aside0.mk (hbox); have n3_ := Aside0.mk ((by rw [hg]; exact (zw_ (by repeat (first | (with_reducible first | exact HB.out | apply zs_ | apply zt_ | apply zu_ | refine zr_ ?_ GE437.out) | exact HB.out))) : w.heap.size ≤ gb438)); have n4_ := Aside0.mk ((by rw [hg]; exact (zw_ (by repeat (first | (with_reducible first | exact HB.out | apply zs_ | apply zt_ | apply zu_ | refine zr_ ?_ GE437.out) | exact HB.out))) : w.heap.size ≤ gb438)); have n5_ := Aside0.mk ((by rw [hg]; exact Nat.ne_of_lt (blk_lt (g := gb437) (o := .cells #[.int .i64 a0_0, .slice A0_1 l0_1.length c0_1] 54 (0, 0)) (by (with_reducible repeat (first | refine zm_ ?_ _ | refine zn_ ?_ | refine zo_ ?_ _)); exact BK437.out)) : gb437 ≠ gb438)); have n6_ := Aside0.mk ((by rw [hg]; exact Nat.ne_of_gt (blk_lt (g := gb437) (o := .cells #[.int .i64 a0_0, .slice A0_1 l0_1.length c0_1] 54 (0, 0)) (by (with_reducible repeat (first | refine zm_ ?_ _ | refine zn_ ?_ | refine zo_ ?_ _)); exact BK437.out)) : gb438 ≠ gb437)); clear BK437; clear HB; have BK437 := n0_; have HB := n1_; have BK438 := n2_; have GW438 := n3_; have GE438 := n4_; have NB437_438 := n5_; have NB438_437 := n6_; clear n0_ n1_ n2_ n3_ n4_ n5_ n6_; clear hb hbox hg) | ((with_reducible refine gate_dst (N := 8) rfl ?_); refine box_event ?hg (N := 8) ?hd (cs := #[.int .i64 0, .int .i64 0, .int .i64 0]) (t := 58) ?hr ?_; (case hd => rfl); (case hg => rfl); (case hr => first | (go_simp; done) | (go_simp; rfl)); intro gb439 hg w28 hbox hb; have n0_ := Aside0.mk (zq_ (g := gb437) (o := .cells #[.int .i64 a0_0, .slice A0_1 l0_1.length c0_1] 54 (0, 0)) (by (with_reducible repeat (first | refine zm_ ?_ _ | refine zn_ ?_ | refine zo_ ?_ _)); exact BK437.out) hb); have n1_ := Aside0.mk (zq_ (g := gb438) (o := .cells #[.int .i64 a3_0, .int .i64 a3_1] 56 (0, 0)) (by (with_reducible repeat (first | refine zm_ ?_ _ | refine zn_ ?_ | refine zo_ ?_ _)); exact BK438.out) hb); have n2_ := Aside0.mk (zv_ (by repeat (first | (with_reducible first | exact HB.out | apply zs_ | apply zt_ | apply zu_ | refine zr_ ?_ GE437.out | refine zr_ ?_ GE438.out) | exact HB.out)) hb); have n3_ := Aside0.mk (hbox); have n4_ := Aside0.mk ((by rw [hg]; exact (zw_ (by repeat (first | (with_reducible first | exact HB.out | apply zs_ | apply zt_ | apply zu_ | refine zr_ ?_ GE437.out | refine zr_ ?_ GE438.out) | exact HB.out))) : w.heap.size ≤ gb439)); have n5_ := Aside0.mk ((by rw [hg]; exact (zw_ (by repeat (first | (with_reducible first | exact HB.out | apply zs_ | apply zt_ | apply zu_ | refine zr_ ?_ GE437.out | refine zr_ ?_ GE438.out) | exact HB.out))) : w.heap.size ≤ gb439)); have n6_ := Aside0.mk ((by rw [hg]; exact Nat.ne_of_lt (blk_lt (g := gb437) (o := .cells #[.int .i64 a0_0, .slice A0_1 l0_1.length c0_1] 54 (0, 0)) (by (with_reducible repeat (first | refine zm_ ?_ _ | refine zn_ ?_ | refine zo_ ?_ _)); exact BK437.out)) : gb437 ≠ gb439)); have n7_ := Aside0.mk ((by rw [hg]; exact Nat.ne_of_gt (blk_lt (g := gb437) (o := .cells #[.int .i64 a0_0, .slice A0_1 l0_1.length c0_1] 54 (0, 0)) (by (with_reducible repeat (first | refine zm_ ?_ _ | refine zn_ ?_ | refine zo_ ?_ _)); exact BK437.out)) : gb439 ≠ gb437)); have n8_ := Aside0.mk ((by rw [hg]; exact Nat.ne_of_lt (blk_lt (g := gb438) (o := .cells #[.int .i64 a3_0, .int .i64 a3_1] 56 (0, 0)) (by (with_reducible repeat (first | refine zm_ ?_ _ | refine zn_ ?_ | refine zo_ ?_ _)); exact BK438.out)) : gb438 ≠ gb439)); have n9_ := Aside0.mk ((by rw [hg]; exact Nat.ne_of_gt (blk_lt (g := gb438) (o := .cells #[.int .i64 a3_0, .int .i64 a3_1] 56 (0, 0)) (by (with_reducible repeat (first | refine zm_ ?_ _ | refine zn_ ?_ | refine zo_ ?_ _)); exact BK438.out)) : gb439 ≠ gb438)); clear BK437; clear BK438; clear HB; have BK437 := n0_; have BK438 := n1_; have HB := n2_; have BK439 := n3_; have GW439 := n4_; have GE439 := n5_; have NB437_439 := n6_; have NB439_437 := n7_; have NB438_439 := n8_; have NB439_438 := n9_; clear n0_ n1_ n2_ n3_ n4_ n5_ n6_ n7_ n8_ n9_; clear hb hbox hg; have hnb29 := NB437_438.out; have hnc29 := NB438_437.out; have hnb30 := NB437_439.out; have hnc30 := NB439_437.out; have hcz31_0 : w28.cell? ⟨gb437, 0, none⟩ = some (.int .i64 a0_0) := (blk_cell BK437.out 0).trans rfl; have hcz31_1 : w28.cell? ⟨gb437, 1, none⟩ = some (.slice A0_1 l0_1.length c0_1) := (blk_cell BK437.out 1).trans rfl; have hfz31_0 := blk_frozen BK437.out 0; have hfz31_1 := blk_frozen BK437.out 1) | ((with_reducible refine gate_callee (f := 43) rfl ?_); refine goesL_ (some 14) rfl rfl Try.func43 (by kernel_rfl) rfl #[.agg #[.int .i64 a0_0, .slice A0_1 l0_1.length c0_1]] rfl (by (try simp only [List.map_toArray, List.map_cons, List.map_nil]); first | done | rfl | (simp only [List.length_drop, List.length_take]; rfl)) ?_; (with_reducible refine (clock_Check.calls k a0_0 _ _ l0_1 t440 _ ?side1 ?side2 A5.out).mono ?_); (case side1 => repeat (first | exact (Kd.C_below HR0_1.out HB.out) | (with_reducible refine Kd.C_alloc ?_ _) | (with_reducible refine Kd.C_drewN ?_ _) | (with_reducible refine Kd.C_drew ?_))); (case side2 => exact HC0_1.out); rintro e w32 ⟨rfl, hb⟩; refine ⟨_, rfl, ?_⟩; have n0_ := Aside0.mk (zq_ (g := gb437) (o := .cells #[.int .i64 a0_0, .slice A0_1 l0_1.length c0_1] 54 (0, 0)) (by (with_reducible repeat (first | refine zm_ ?_ _ | refine zn_ ?_ | refine zo_ ?_ _)); exact BK437.out) hb); have n1_ := Aside0.mk (zq_ (g := gb438) (o := .cells #[.int .i64 a3_0, .int .i64 a3_1] 56 (0, 0)) (by (with_reducible repeat (first | refine zm_ ?_ _ | refine zn_ ?_ | refine zo_ ?_ _)); exact BK438.out) hb); have n2_ := Aside0.mk (zq_ (g := gb439) (o := .cells #[.int .i64 0, .int .i64 0, .int .i64 0] 58 (0, 0)) (by (with_reducible repeat (first | refine zm_ ?_ _ | refine zn_ ?_ | refine zo_ ?_ _)); exact BK439.out) hb); have n3_ := Aside0.mk (zv_ (by repeat (first | (with_reducible first | exact HB.out | apply zs_ | apply zt_ | apply zu_ | refine zr_ ?_ GE437.out | refine zr_ ?_ GE438.out | refine zr_ ?_ GE439.out) | exact HB.out)) hb); clear BK437; clear BK438; clear BK439; clear HB; have BK437 := n0_; have BK438 := n1_; have BK439 := n2_; have HB := n3_; clear n0_ n1_ n2_ n3_; (try clear hb); (try clear hb2); (try clear hk); (try clear hi)) | ((with_reducible refine gate_dst (N := 21) rfl ?_); refine Kd.R_lit (Kd.int .i64) _ 3 ?hg (N := 21) ?hd (xs := ([a1, a2] : List Int)) (inner := [.int .i64 a1, .int .i64 a2]) (ok := fun _ => True) (okp := fun _ => True) ?hr ?hp (fun _ hk => hk) trivial (Below.refl _ _) (Nat.le_refl _) (by simp) ?_; (case hd => rfl); (case hg => rfl); (case hr => first | (go_simp; done) | (go_simp; rfl)); (case hp => exact (Reps.one (show Kd.M (Kd.int .i64) _ _ _ a1 [.int .i64 a1] from rfl) (Reps.one (show Kd.M (Kd.int .i64) _ _ _ a2 [.int .i64 a2] from rfl) (Reps.none _ _)))); intro v442 w33 ho34 hb hg_ hnew_; clear hg_ hnew_; (first | rw [← Ny441.out] at ho34 | (simp only [Int.reduceToNat] at ho34; rw [← Ny441.out] at ho34)); have n0_ := Aside0.mk (zg_ ho34 (zw_ (by repeat (first | (with_reducible first | exact HB.out | apply zs_ | apply zt_ | apply zu_ | refine zr_ ?_ GE437.out | refine zr_ ?_ GE438.out | refine zr_ ?_ GE439.out) | exact HB.out)))); have n1_ := Aside0.mk (zq_ (g := gb437) (o := .cells #[.int .i64 a0_0, .slice A0_1 l0_1.length c0_1] 54 (0, 0)) (by (with_reducible repeat (first | refine zm_ ?_ _ | refine zn_ ?_ | refine zo_ ?_ _)); exact BK437.out) hb); have n2_ := Aside0.mk (zq_ (g := gb438) (o := .cells #[.int .i64 a3_0, .int .i64 a3_1] 56 (0, 0)) (by (with_reducible repeat (first | refine zm_ ?_ _ | refine zn_ ?_ | refine zo_ ?_ _)); exact BK438.out) hb); have n3_ := Aside0.mk (zq_ (g := gb439) (o := .cells #[.int .i64 0, .int .i64 0, .int .i64 0] 58 (0, 0)) (by (with_reducible repeat (first | refine zm_ ?_ _ | refine zn_ ?_ | refine zo_ ?_ _)); exact BK439.out) hb); have n4_ := Aside0.mk (zv_ (by repeat (first | (with_reducible first | exact HB.out | apply zs_ | apply zt_ | apply zu_ | refine zr_ ?_ GE437.out | refine zr_ ?_ GE438.out | refine zr_ ?_ GE439.out) | exact HB.out)) hb); clear BK437; clear BK438; clear BK439; clear HB; have HO443 := n0_; have BK437 := n1_; have BK438 := n2_; have BK439 := n3_; have HB := n4_; clear n0_ n1_ n2_ n3_ n4_; clear hb ho34; obtain ⟨Ao35, co35, eo35⟩ := Kd.R_slice HO443.out; subst eo35) | ((with_reducible refine gate_callee (f := 71) rfl ?_); refine goesL_ (some 22) rfl rfl Try.func71 (by kernel_rfl) rfl #[.slice Ao35 y441.length co35] rfl (by (try simp only [List.map_toArray, List.map_cons, List.map_nil]); first | done | rfl | (simp only [List.length_drop, List.length_take]; rfl)) ?_; (with_reducible refine (clock_instants.calls _ _ y441 true _ ?side1 ?side2 A7.out).mono ?_); (case side1 => repeat (first | exact (zl_ HO443.out).2.2 | (with_reducible refine Kd.C_alloc ?_ _) | (with_reducible refine Kd.C_drewN ?_ _) | (with_reducible refine Kd.C_drew ?_))); (case side2 => exact (zl_ HO443.out).2.1); rintro e w' ⟨rfl, ⟨nd, rfl⟩⟩; refine ⟨_, rfl, ?_⟩; (try (rw [drewN_self w33]; generalize hq_ : World.drewN w33 _ = w33; have n0_ : Aside0 (Kd.R (Kd.int .i64) 3 w33 w.heap.size (fun _ => True) (.slice Ao35 y441.length co35) y441) := ⟨by rw [← hq_]; exact (by (with_reducible repeat (first | apply za_ | apply zb_ | apply zc_)); exact HO443.out)⟩; have n1_ : Aside0 (w33.heap[gb437]? = some (.cells #[.int .i64 a0_0, .slice A0_1 l0_1.length c0_1] 54 (0, 0))) := ⟨by rw [← hq_]; exact (by (with_reducible repeat (first | refine zm_ ?_ _ | refine zn_ ?_ | refine zo_ ?_ _)); exact BK437.out)⟩; have n2_ : Aside0 (w33.heap[gb438]? = some (.cells #[.int .i64 a3_0, .int .i64 a3_1] 56 (0, 0))) := ⟨by rw [← hq_]; exact (by (with_reducible repeat (first | refine zm_ ?_ _ | refine zn_ ?_ | refine zo_ ?_ _)); exact BK438.out)⟩; have n3_ : Aside0 (w33.heap[gb439]? = some (.cells #[.int .i64 0, .int .i64 0, .int .i64 0] 58 (0, 0))) := ⟨by rw [← hq_]; exact (by (with_reducible repeat (first | refine zm_ ?_ _ | refine zn_ ?_ | refine zo_ ?_ _)); exact BK439.out)⟩; have n4_ : Aside0 (Below w.heap.size w w33) := ⟨by rw [← hq_]; exact (by repeat (first | (with_reducible first | exact HB.out | apply zs_ | apply zt_ | apply zu_ | refine zr_ ?_ GE437.out | refine zr_ ?_ GE438.out | refine zr_ ?_ GE439.out) | exact HB.out))⟩; clear HO443 BK437 BK438 BK439 HB hq_; have HO443 := n0_; have BK437 := n1_; have BK438 := n2_; have BK439 := n3_; have HB := n4_; clear n0_ n1_ n2_ n3_ n4_)); have hnb36 := NB438_439.out; have hnc36 := NB439_438.out; have hcz37_0 : w33.cell? ⟨gb438, 0, none⟩ = some (.int .i64 a3_0) := (blk_cell BK438.out 0).trans rfl; have hcz37_1 : w33.cell? ⟨gb438, 1, none⟩ = some (.int .i64 a3_1) := (blk_cell BK438.out 1).trans rfl; have hfz37_0 := blk_frozen BK438.out 0; have hfz37_1 := blk_frozen BK438.out 1) | (go_at_call 76; (with_reducible refine (clock_valid.calls a3_0 a3_1 true _ A22.out).mono ?_); rintro e w38 ⟨rfl, hb⟩; have n0_ := Aside0.mk (Kd.R_below (by (with_reducible repeat (first | apply za_ | apply zb_ | apply zc_)); exact HO443.out) hb); have n1_ := Aside0.mk (zq_ (g := gb437) (o := .cells #[.int .i64 a0_0, .slice A0_1 l0_1.length c0_1] 54 (0, 0)) (by (with_reducible repeat (first | refine zm_ ?_ _ | refine zn_ ?_ | refine zo_ ?_ _)); exact BK437.out) hb); have n2_ := Aside0.mk (zq_ (g := gb438) (o := .cells #[.int .i64 a3_0, .int .i64 a3_1] 56 (0, 0)) (by (with_reducible repeat (first | refine zm_ ?_ _ | refine zn_ ?_ | refine zo_ ?_ _)); exact BK438.out) hb); have n3_ := Aside0.mk (zq_ (g := gb439) (o := .cells #[.int .i64 0, .int .i64 0, .int .i64 0] 58 (0, 0)) (by (with_reducible repeat (first | refine zm_ ?_ _ | refine zn_ ?_ | refine zo_ ?_ _)); exact BK439.out) hb); have n4_ := Aside0.mk (zv_ (by repeat (first | (with_reducible first | exact HB.out | apply zs_ | apply zt_ | apply zu_ | refine zr_ ?_ GE437.out | refine zr_ ?_ GE438.out | refine zr_ ?_ GE439.out) | exact HB.out)) hb); clear HO443; clear BK437; clear BK438; clear BK439; clear HB; have HO443 := n0_; have BK437 := n1_; have BK438 := n2_; have BK439 := n3_; have HB := n4_; clear n0_ n1_ n2_ n3_ n4_; (try clear hb); (try clear hb2); (try clear hk); (try clear hi); have hcz39_0 : w38.cell? ⟨gb437, 0, none⟩ = some (.int .i64 a0_0) := (blk_cell BK437.out 0).trans rfl; have hcz39_1 : w38.cell? ⟨gb437, 1, none⟩ = some (.slice A0_1 l0_1.length c0_1) := (blk_cell BK437.out 1).trans rfl; have hfz39_0 := blk_frozen BK437.out 0; have hfz39_1 := blk_frozen BK437.out 1) | ((with_reducible refine gate_callee (f := 72) rfl ?_); refine goesL_ (some 41) rfl rfl Try.func72 (by kernel_rfl) rfl #[.int .i64 a0_0, .int .i64 (wrap64 (a2 - a1))] rfl (by (try simp only [List.map_toArray, List.map_cons, List.map_nil]); first | done | rfl | (simp only [List.length_drop, List.length_take]; rfl)) ?_; (with_reducible refine (clock_passed.calls a0_0 (wrap64 (a2 - a1)) t446 t447 _ A24.out).mono ?_); rintro e w' ⟨rfl, ⟨nd, rfl⟩⟩; refine ⟨_, rfl, ?_⟩; (try (rw [drewN_self w38]; generalize hq_ : World.drewN w38 _ = w38; have n0_ : Aside0 (Kd.R (Kd.int .i64) 3 w38 w.heap.size (fun _ => True) (.slice Ao35 y441.length co35) y441) := ⟨by rw [← hq_]; exact (by (with_reducible repeat (first | apply za_ | apply zb_ | apply zc_)); exact HO443.out)⟩; have n1_ : Aside0 (w38.heap[gb437]? = some (.cells #[.int .i64 a0_0, .slice A0_1 l0_1.length c0_1] 54 (0, 0))) := ⟨by rw [← hq_]; exact (by (with_reducible repeat (first | refine zm_ ?_ _ | refine zn_ ?_ | refine zo_ ?_ _)); exact BK437.out)⟩; have n2_ : Aside0 (w38.heap[gb438]? = some (.cells #[.int .i64 a3_0, .int .i64 a3_1] 56 (0, 0))) := ⟨by rw [← hq_]; exact (by (with_reducible repeat (first | refine zm_ ?_ _ | refine zn_ ?_ | refine zo_ ?_ _)); exact BK438.out)⟩; have n3_ : Aside0 (w38.heap[gb439]? = some (.cells #[.int .i64 0, .int .i64 0, .int .i64 0] 58 (0, 0))) := ⟨by rw [← hq_]; exact (by (with_reducible repeat (first | refine zm_ ?_ _ | refine zn_ ?_ | refine zo_ ?_ _)); exact BK439.out)⟩; have n4_ : Aside0 (Below w.heap.size w w38) := ⟨by rw [← hq_]; exact (by repeat (first | (with_reducible first | exact HB.out | apply zs_ | apply zt_ | apply zu_ | refine zr_ ?_ GE437.out | refine zr_ ?_ GE438.out | refine zr_ ?_ GE439.out) | exact HB.out))⟩; clear HO443 BK437 BK438 BK439 HB hq_; have HO443 := n0_; have BK437 := n1_; have BK438 := n2_; have BK439 := n3_; have HB := n4_; clear n0_ n1_ n2_ n3_ n4_)); have hcz40_0 : w38.cell? ⟨gb438, 0, none⟩ = some (.int .i64 a3_0) := (blk_cell BK438.out 0).trans rfl; have hcz40_1 : w38.cell? ⟨gb438, 1, none⟩ = some (.int .i64 a3_1) := (blk_cell BK438.out 1).trans rfl; have hfz40_0 := blk_frozen BK438.out 0; have hfz40_1 := blk_frozen BK438.out 1; have hcz41_0 : w38.cell? ⟨gb439, 0, none⟩ = some (.int .i64 0) := (blk_cell BK439.out 0).trans rfl; have hcz41_1 : w38.cell? ⟨gb439, 1, none⟩ = some (.int .i64 0) := (blk_cell BK439.out 1).trans rfl; have hcz41_2 : w38.cell? ⟨gb439, 2, none⟩ = some (.int .i64 0) := (blk_cell BK439.out 2).trans rfl; have hfz41_0 := blk_frozen BK439.out 0; have hfz41_1 := blk_frozen BK439.out 1; have hfz41_2 := blk_frozen BK439.out 2))
          refine bodyPost_ret (results_ct rfl _ _ gb439 58 #[.int .i64 a2, .int .i64 a3_0, .int .i64 ji25] (0, 0) _ rfl (by (with_reducible repeat (first | refine zm_ ?_ _ | refine zn_ ?_ | refine zo_ ?_ _)); refine blk_put (cs := #[.int .i64 a2, .int .i64 a3_0, .int .i64 0]) ?_ 2 _ rfl; (with_reducible repeat (first | refine zm_ ?_ _ | refine zn_ ?_ | refine zo_ ?_ _)); refine blk_put (cs := #[.int .i64 a2, .int .i64 0, .int .i64 0]) ?_ 1 _ rfl; (with_reducible repeat (first | refine zm_ ?_ _ | refine zn_ ?_ | refine zo_ ?_ _)); refine blk_put (cs := #[.int .i64 0, .int .i64 0, .int .i64 0]) ?_ 0 _ rfl; (with_reducible repeat (first | refine zm_ ?_ _ | refine zn_ ?_ | refine zo_ ?_ _)); exact BK439.out) Try.underlying58 rfl (by kernel_rfl)) rfl ?_
          exact ⟨by first | rfl | (simp [errW_none, errW_some] <;> rfl) | (simp only [← hji25]; first | rfl | (simp [errW_none, errW_some] <;> rfl)) | (simp [*, errW_none, errW_some] <;> rfl), by repeat (first | (with_reducible first | exact HB.out | apply zs_ | apply zt_ | apply zu_ | refine zr_ ?_ GE437.out | refine zr_ ?_ GE438.out | refine zr_ ?_ GE439.out) | exact HB.out)⟩
        · replace c23 := Bool.eq_false_iff.mpr c23
          subst c23
          have H1 : (some (0, 0, 0, 3)) = some (r1, r2, r3, r4) := by rw [if_neg (show ¬ (false = true) by decide)] at H; exact H
          clear H
          have H := H1
          clear H1
          simp only [Option.some.injEq, Prod.mk.injEq] at H
          obtain ⟨rfl, rfl, rfl, rfl⟩ := H
          go_enter Try.func46, Try.ntmps46
          go_wp2_with (first | ((with_reducible refine gate_dst (N := 4) rfl ?_); refine box_event ?hg (N := 4) ?hd (cs := #[.int .i64 a0_0, .slice A0_1 l0_1.length c0_1]) (t := 54) ?hr ?_; (case hd => rfl); (case hg => rfl); (case hr => first | (go_simp; done) | (go_simp; rfl)); intro gb437 hg w42 hbox hb; have n0_ := Aside0.mk (zv_ (by repeat (first | (with_reducible first | exact HB.out | apply zs_ | apply zt_ | apply zu_) | exact HB.out)) hb); have n1_ := Aside0.mk (hbox); have n2_ := Aside0.mk ((by rw [hg]; exact (zw_ (by repeat (first | (with_reducible first | exact HB.out | apply zs_ | apply zt_ | apply zu_) | exact HB.out))) : w.heap.size ≤ gb437)); have n3_ := Aside0.mk ((by rw [hg]; exact (zw_ (by repeat (first | (with_reducible first | exact HB.out | apply zs_ | apply zt_ | apply zu_) | exact HB.out))) : w.heap.size ≤ gb437)); clear HB; have HB := n0_; have BK437 := n1_; have GW437 := n2_; have GE437 := n3_; clear n0_ n1_ n2_ n3_; clear hb hbox hg) | ((with_reducible refine gate_dst (N := 7) rfl ?_); refine box_event ?hg (N := 7) ?hd (cs := #[.int .i64 a3_0, .int .i64 a3_1]) (t := 56) ?hr ?_; (case hd => rfl); (case hg => rfl); (case hr => first | (go_simp; done) | (go_simp; rfl)); intro gb438 hg w43 hbox hb; have n0_ := Aside0.mk (zq_ (g := gb437) (o := .cells #[.int .i64 a0_0, .slice A0_1 l0_1.length c0_1] 54 (0, 0)) (by (with_reducible repeat (first | refine zm_ ?_ _ | refine zn_ ?_ | refine zo_ ?_ _)); exact BK437.out) hb); have n1_ := Aside0.mk (zv_ (by repeat (first | (with_reducible first | exact HB.out | apply zs_ | apply zt_ | apply zu_ | refine zr_ ?_ GE437.out) | exact HB.out)) hb); have n2_ := Aside0.mk (hbox); have n3_ := Aside0.mk ((by rw [hg]; exact (zw_ (by repeat (first | (with_reducible first | exact HB.out | apply zs_ | apply zt_ | apply zu_ | refine zr_ ?_ GE437.out) | exact HB.out))) : w.heap.size ≤ gb438)); have n4_ := Aside0.mk ((by rw [hg]; exact (zw_ (by repeat (first | (with_reducible first | exact HB.out | apply zs_ | apply zt_ | apply zu_ | refine zr_ ?_ GE437.out) | exact HB.out))) : w.heap.size ≤ gb438)); have n5_ := Aside0.mk ((by rw [hg]; exact Nat.ne_of_lt (blk_lt (g := gb437) (o := .cells #[.int .i64 a0_0, .slice A0_1 l0_1.length c0_1] 54 (0, 0)) (by (with_reducible repeat (first | refine zm_ ?_ _ | refine zn_ ?_ | refine zo_ ?_ _)); exact BK437.out)) : gb437 ≠ gb438)); have n6_ := Aside0.mk ((by rw [hg]; exact Nat.ne_of_gt (blk_lt (g := gb437) (o := .cells #[.int .i64 a0_0, .slice A0_1 l0_1.length c0_1] 54 (0, 0)) (by (with_reducible repeat (first | refine zm_ ?_ _ | refine zn_ ?_ | refine zo_ ?_ _)); exact BK437.out)) : gb438 ≠ gb437)); clear BK437; clear HB; have BK437 := n0_; have HB := n1_; have BK438 := n2_; have GW438 := n3_; have GE438 := n4_; have NB437_438 := n5_; have NB438_437 := n6_; clear n0_ n1_ n2_ n3_ n4_ n5_ n6_; clear hb hbox hg) | ((with_reducible refine gate_dst (N := 8) rfl ?_); refine box_event ?hg (N := 8) ?hd (cs := #[.int .i64 0, .int .i64 0, .int .i64 0]) (t := 58) ?hr ?_; (case hd => rfl); (case hg => rfl); (case hr => first | (go_simp; done) | (go_simp; rfl)); intro gb439 hg w44 hbox hb; have n0_ := Aside0.mk (zq_ (g := gb437) (o := .cells #[.int .i64 a0_0, .slice A0_1 l0_1.length c0_1] 54 (0, 0)) (by (with_reducible repeat (first | refine zm_ ?_ _ | refine zn_ ?_ | refine zo_ ?_ _)); exact BK437.out) hb); have n1_ := Aside0.mk (zq_ (g := gb438) (o := .cells #[.int .i64 a3_0, .int .i64 a3_1] 56 (0, 0)) (by (with_reducible repeat (first | refine zm_ ?_ _ | refine zn_ ?_ | refine zo_ ?_ _)); exact BK438.out) hb); have n2_ := Aside0.mk (zv_ (by repeat (first | (with_reducible first | exact HB.out | apply zs_ | apply zt_ | apply zu_ | refine zr_ ?_ GE437.out | refine zr_ ?_ GE438.out) | exact HB.out)) hb); have n3_ := Aside0.mk (hbox); have n4_ := Aside0.mk ((by rw [hg]; exact (zw_ (by repeat (first | (with_reducible first | exact HB.out | apply zs_ | apply zt_ | apply zu_ | refine zr_ ?_ GE437.out | refine zr_ ?_ GE438.out) | exact HB.out))) : w.heap.size ≤ gb439)); have n5_ := Aside0.mk ((by rw [hg]; exact (zw_ (by repeat (first | (with_reducible first | exact HB.out | apply zs_ | apply zt_ | apply zu_ | refine zr_ ?_ GE437.out | refine zr_ ?_ GE438.out) | exact HB.out))) : w.heap.size ≤ gb439)); have n6_ := Aside0.mk ((by rw [hg]; exact Nat.ne_of_lt (blk_lt (g := gb437) (o := .cells #[.int .i64 a0_0, .slice A0_1 l0_1.length c0_1] 54 (0, 0)) (by (with_reducible repeat (first | refine zm_ ?_ _ | refine zn_ ?_ | refine zo_ ?_ _)); exact BK437.out)) : gb437 ≠ gb439)); have n7_ := Aside0.mk ((by rw [hg]; exact Nat.ne_of_gt (blk_lt (g := gb437) (o := .cells #[.int .i64 a0_0, .slice A0_1 l0_1.length c0_1] 54 (0, 0)) (by (with_reducible repeat (first | refine zm_ ?_ _ | refine zn_ ?_ | refine zo_ ?_ _)); exact BK437.out)) : gb439 ≠ gb437)); have n8_ := Aside0.mk ((by rw [hg]; exact Nat.ne_of_lt (blk_lt (g := gb438) (o := .cells #[.int .i64 a3_0, .int .i64 a3_1] 56 (0, 0)) (by (with_reducible repeat (first | refine zm_ ?_ _ | refine zn_ ?_ | refine zo_ ?_ _)); exact BK438.out)) : gb438 ≠ gb439)); have n9_ := Aside0.mk ((by rw [hg]; exact Nat.ne_of_gt (blk_lt (g := gb438) (o := .cells #[.int .i64 a3_0, .int .i64 a3_1] 56 (0, 0)) (by (with_reducible repeat (first | refine zm_ ?_ _ | refine zn_ ?_ | refine zo_ ?_ _)); exact BK438.out)) : gb439 ≠ gb438)); clear BK437; clear BK438; clear HB; have BK437 := n0_; have BK438 := n1_; have HB := n2_; have BK439 := n3_; have GW439 := n4_; have GE439 := n5_; have NB437_439 := n6_; have NB439_437 := n7_; have NB438_439 := n8_; have NB439_438 := n9_; clear n0_ n1_ n2_ n3_ n4_ n5_ n6_ n7_ n8_ n9_; clear hb hbox hg; have hnb45 := NB437_438.out; have hnc45 := NB438_437.out; have hnb46 := NB437_439.out; have hnc46 := NB439_437.out; have hcz47_0 : w44.cell? ⟨gb437, 0, none⟩ = some (.int .i64 a0_0) := (blk_cell BK437.out 0).trans rfl; have hcz47_1 : w44.cell? ⟨gb437, 1, none⟩ = some (.slice A0_1 l0_1.length c0_1) := (blk_cell BK437.out 1).trans rfl; have hfz47_0 := blk_frozen BK437.out 0; have hfz47_1 := blk_frozen BK437.out 1) | ((with_reducible refine gate_callee (f := 43) rfl ?_); refine goesL_ (some 14) rfl rfl Try.func43 (by kernel_rfl) rfl #[.agg #[.int .i64 a0_0, .slice A0_1 l0_1.length c0_1]] rfl (by (try simp only [List.map_toArray, List.map_cons, List.map_nil]); first | done | rfl | (simp only [List.length_drop, List.length_take]; rfl)) ?_; (with_reducible refine (clock_Check.calls k a0_0 _ _ l0_1 t440 _ ?side1 ?side2 A5.out).mono ?_); (case side1 => repeat (first | exact (Kd.C_below HR0_1.out HB.out) | (with_reducible refine Kd.C_alloc ?_ _) | (with_reducible refine Kd.C_drewN ?_ _) | (with_reducible refine Kd.C_drew ?_))); (case side2 => exact HC0_1.out); rintro e w48 ⟨rfl, hb⟩; refine ⟨_, rfl, ?_⟩; have n0_ := Aside0.mk (zq_ (g := gb437) (o := .cells #[.int .i64 a0_0, .slice A0_1 l0_1.length c0_1] 54 (0, 0)) (by (with_reducible repeat (first | refine zm_ ?_ _ | refine zn_ ?_ | refine zo_ ?_ _)); exact BK437.out) hb); have n1_ := Aside0.mk (zq_ (g := gb438) (o := .cells #[.int .i64 a3_0, .int .i64 a3_1] 56 (0, 0)) (by (with_reducible repeat (first | refine zm_ ?_ _ | refine zn_ ?_ | refine zo_ ?_ _)); exact BK438.out) hb); have n2_ := Aside0.mk (zq_ (g := gb439) (o := .cells #[.int .i64 0, .int .i64 0, .int .i64 0] 58 (0, 0)) (by (with_reducible repeat (first | refine zm_ ?_ _ | refine zn_ ?_ | refine zo_ ?_ _)); exact BK439.out) hb); have n3_ := Aside0.mk (zv_ (by repeat (first | (with_reducible first | exact HB.out | apply zs_ | apply zt_ | apply zu_ | refine zr_ ?_ GE437.out | refine zr_ ?_ GE438.out | refine zr_ ?_ GE439.out) | exact HB.out)) hb); clear BK437; clear BK438; clear BK439; clear HB; have BK437 := n0_; have BK438 := n1_; have BK439 := n2_; have HB := n3_; clear n0_ n1_ n2_ n3_; (try clear hb); (try clear hb2); (try clear hk); (try clear hi)) | ((with_reducible refine gate_dst (N := 21) rfl ?_); refine Kd.R_lit (Kd.int .i64) _ 3 ?hg (N := 21) ?hd (xs := ([a1, a2] : List Int)) (inner := [.int .i64 a1, .int .i64 a2]) (ok := fun _ => True) (okp := fun _ => True) ?hr ?hp (fun _ hk => hk) trivial (Below.refl _ _) (Nat.le_refl _) (by simp) ?_; (case hd => rfl); (case hg => rfl); (case hr => first | (go_simp; done) | (go_simp; rfl)); (case hp => exact (Reps.one (show Kd.M (Kd.int .i64) _ _ _ a1 [.int .i64 a1] from rfl) (Reps.one (show Kd.M (Kd.int .i64) _ _ _ a2 [.int .i64 a2] from rfl) (Reps.none _ _)))); intro v442 w49 ho50 hb hg_ hnew_; clear hg_ hnew_; (first | rw [← Ny441.out] at ho50 | (simp only [Int.reduceToNat] at ho50; rw [← Ny441.out] at ho50)); have n0_ := Aside0.mk (zg_ ho50 (zw_ (by repeat (first | (with_reducible first | exact HB.out | apply zs_ | apply zt_ | apply zu_ | refine zr_ ?_ GE437.out | refine zr_ ?_ GE438.out | refine zr_ ?_ GE439.out) | exact HB.out)))); have n1_ := Aside0.mk (zq_ (g := gb437) (o := .cells #[.int .i64 a0_0, .slice A0_1 l0_1.length c0_1] 54 (0, 0)) (by (with_reducible repeat (first | refine zm_ ?_ _ | refine zn_ ?_ | refine zo_ ?_ _)); exact BK437.out) hb); have n2_ := Aside0.mk (zq_ (g := gb438) (o := .cells #[.int .i64 a3_0, .int .i64 a3_1] 56 (0, 0)) (by (with_reducible repeat (first | refine zm_ ?_ _ | refine zn_ ?_ | refine zo_ ?_ _)); exact BK438.out) hb); have n3_ := Aside0.mk (zq_ (g := gb439) (o := .cells #[.int .i64 0, .int .i64 0, .int .i64 0] 58 (0, 0)) (by (with_reducible repeat (first | refine zm_ ?_ _ | refine zn_ ?_ | refine zo_ ?_ _)); exact BK439.out) hb); have n4_ := Aside0.mk (zv_ (by repeat (first | (with_reducible first | exact HB.out | apply zs_ | apply zt_ | apply zu_ | refine zr_ ?_ GE437.out | refine zr_ ?_ GE438.out | refine zr_ ?_ GE439.out) | exact HB.out)) hb); clear BK437; clear BK438; clear BK439; clear HB; have HO443 := n0_; have BK437 := n1_; have BK438 := n2_; have BK439 := n3_; have HB := n4_; clear n0_ n1_ n2_ n3_ n4_; clear hb ho50; obtain ⟨Ao51, co51, eo51⟩ := Kd.R_slice HO443.out; subst eo51) | ((with_reducible refine gate_callee (f := 71) rfl ?_); refine goesL_ (some 22) rfl rfl Try.func71 (by kernel_rfl) rfl #[.slice Ao51 y441.length co51] rfl (by (try simp only [List.map_toArray, List.map_cons, List.map_nil]); first | done | rfl | (simp only [List.length_drop, List.length_take]; rfl)) ?_; (with_reducible refine (clock_instants.calls _ _ y441 true _ ?side1 ?side2 A7.out).mono ?_); (case side1 => repeat (first | exact (zl_ HO443.out).2.2 | (with_reducible refine Kd.C_alloc ?_ _) | (with_reducible refine Kd.C_drewN ?_ _) | (with_reducible refine Kd.C_drew ?_))); (case side2 => exact (zl_ HO443.out).2.1); rintro e w' ⟨rfl, ⟨nd, rfl⟩⟩; refine ⟨_, rfl, ?_⟩; (try (rw [drewN_self w49]; generalize hq_ : World.drewN w49 _ = w49; have n0_ : Aside0 (Kd.R (Kd.int .i64) 3 w49 w.heap.size (fun _ => True) (.slice Ao51 y441.length co51) y441) := ⟨by rw [← hq_]; exact (by (with_reducible repeat (first | apply za_ | apply zb_ | apply zc_)); exact HO443.out)⟩; have n1_ : Aside0 (w49.heap[gb437]? = some (.cells #[.int .i64 a0_0, .slice A0_1 l0_1.length c0_1] 54 (0, 0))) := ⟨by rw [← hq_]; exact (by (with_reducible repeat (first | refine zm_ ?_ _ | refine zn_ ?_ | refine zo_ ?_ _)); exact BK437.out)⟩; have n2_ : Aside0 (w49.heap[gb438]? = some (.cells #[.int .i64 a3_0, .int .i64 a3_1] 56 (0, 0))) := ⟨by rw [← hq_]; exact (by (with_reducible repeat (first | refine zm_ ?_ _ | refine zn_ ?_ | refine zo_ ?_ _)); exact BK438.out)⟩; have n3_ : Aside0 (w49.heap[gb439]? = some (.cells #[.int .i64 0, .int .i64 0, .int .i64 0] 58 (0, 0))) := ⟨by rw [← hq_]; exact (by (with_reducible repeat (first | refine zm_ ?_ _ | refine zn_ ?_ | refine zo_ ?_ _)); exact BK439.out)⟩; have n4_ : Aside0 (Below w.heap.size w w49) := ⟨by rw [← hq_]; exact (by repeat (first | (with_reducible first | exact HB.out | apply zs_ | apply zt_ | apply zu_ | refine zr_ ?_ GE437.out | refine zr_ ?_ GE438.out | refine zr_ ?_ GE439.out) | exact HB.out))⟩; clear HO443 BK437 BK438 BK439 HB hq_; have HO443 := n0_; have BK437 := n1_; have BK438 := n2_; have BK439 := n3_; have HB := n4_; clear n0_ n1_ n2_ n3_ n4_)); have hnb52 := NB438_439.out; have hnc52 := NB439_438.out; have hcz53_0 : w49.cell? ⟨gb438, 0, none⟩ = some (.int .i64 a3_0) := (blk_cell BK438.out 0).trans rfl; have hcz53_1 : w49.cell? ⟨gb438, 1, none⟩ = some (.int .i64 a3_1) := (blk_cell BK438.out 1).trans rfl; have hfz53_0 := blk_frozen BK438.out 0; have hfz53_1 := blk_frozen BK438.out 1) | (go_at_call 76; (with_reducible refine (clock_valid.calls a3_0 a3_1 false _ A22.out).mono ?_); rintro e w54 ⟨rfl, hb⟩; have n0_ := Aside0.mk (Kd.R_below (by (with_reducible repeat (first | apply za_ | apply zb_ | apply zc_)); exact HO443.out) hb); have n1_ := Aside0.mk (zq_ (g := gb437) (o := .cells #[.int .i64 a0_0, .slice A0_1 l0_1.length c0_1] 54 (0, 0)) (by (with_reducible repeat (first | refine zm_ ?_ _ | refine zn_ ?_ | refine zo_ ?_ _)); exact BK437.out) hb); have n2_ := Aside0.mk (zq_ (g := gb438) (o := .cells #[.int .i64 a3_0, .int .i64 a3_1] 56 (0, 0)) (by (with_reducible repeat (first | refine zm_ ?_ _ | refine zn_ ?_ | refine zo_ ?_ _)); exact BK438.out) hb); have n3_ := Aside0.mk (zq_ (g := gb439) (o := .cells #[.int .i64 0, .int .i64 0, .int .i64 0] 58 (0, 0)) (by (with_reducible repeat (first | refine zm_ ?_ _ | refine zn_ ?_ | refine zo_ ?_ _)); exact BK439.out) hb); have n4_ := Aside0.mk (zv_ (by repeat (first | (with_reducible first | exact HB.out | apply zs_ | apply zt_ | apply zu_ | refine zr_ ?_ GE437.out | refine zr_ ?_ GE438.out | refine zr_ ?_ GE439.out) | exact HB.out)) hb); clear HO443; clear BK437; clear BK438; clear BK439; clear HB; have HO443 := n0_; have BK437 := n1_; have BK438 := n2_; have BK439 := n3_; have HB := n4_; clear n0_ n1_ n2_ n3_ n4_; (try clear hb); (try clear hb2); (try clear hk); (try clear hi); have hcz55_0 : w54.cell? ⟨gb439, 0, none⟩ = some (.int .i64 0) := (blk_cell BK439.out 0).trans rfl; have hcz55_1 : w54.cell? ⟨gb439, 1, none⟩ = some (.int .i64 0) := (blk_cell BK439.out 1).trans rfl; have hcz55_2 : w54.cell? ⟨gb439, 2, none⟩ = some (.int .i64 0) := (blk_cell BK439.out 2).trans rfl; have hfz55_0 := blk_frozen BK439.out 0; have hfz55_1 := blk_frozen BK439.out 1; have hfz55_2 := blk_frozen BK439.out 2))
          refine bodyPost_ret (results_ct rfl _ _ gb439 58 #[.int .i64 0, .int .i64 0, .int .i64 0] (0, 0) _ rfl (by (with_reducible repeat (first | refine zm_ ?_ _ | refine zn_ ?_ | refine zo_ ?_ _)); refine blk_put (cs := #[.int .i64 0, .int .i64 0, .int .i64 0]) ?_ 2 _ rfl; (with_reducible repeat (first | refine zm_ ?_ _ | refine zn_ ?_ | refine zo_ ?_ _)); refine blk_put (cs := #[.int .i64 0, .int .i64 0, .int .i64 0]) ?_ 1 _ rfl; (with_reducible repeat (first | refine zm_ ?_ _ | refine zn_ ?_ | refine zo_ ?_ _)); refine blk_put (cs := #[.int .i64 0, .int .i64 0, .int .i64 0]) ?_ 0 _ rfl; (with_reducible repeat (first | refine zm_ ?_ _ | refine zn_ ?_ | refine zo_ ?_ _)); exact BK439.out) Try.underlying58 rfl (by kernel_rfl)) rfl ?_
          exact ⟨by first | rfl | (simp [errW_none, errW_some] <;> rfl) | (simp [*, errW_none, errW_some] <;> rfl), by repeat (first | (with_reducible first | exact HB.out | apply zs_ | apply zt_ | apply zu_ | refine zr_ ?_ GE437.out | refine zr_ ?_ GE438.out | refine zr_ ?_ GE439.out) | exact HB.out)⟩
    · replace c8 := Bool.eq_false_iff.mpr c8
      subst c8
      have H1 : (some (0, 0, 0, 3)) = some (r1, r2, r3, r4) := by rw [if_neg (show ¬ (false = true) by decide)] at H; exact H
      clear H
      have H := H1
      clear H1
      simp only [Option.some.injEq, Prod.mk.injEq] at H
      obtain ⟨rfl, rfl, rfl, rfl⟩ := H
      go_enter Try.func46, Try.ntmps46
      go_wp2_with (first | ((with_reducible refine gate_dst (N := 4) rfl ?_); refine box_event ?hg (N := 4) ?hd (cs := #[.int .i64 a0_0, .slice A0_1 l0_1.length c0_1]) (t := 54) ?hr ?_; (case hd => rfl); (case hg => rfl); (case hr => first | (go_simp; done) | (go_simp; rfl)); intro gb437 hg w56 hbox hb; have n0_ := Aside0.mk (zv_ (by repeat (first | (with_reducible first | exact HB.out | apply zs_ | apply zt_ | apply zu_) | exact HB.out)) hb); have n1_ := Aside0.mk (hbox); have n2_ := Aside0.mk ((by rw [hg]; exact (zw_ (by repeat (first | (with_reducible first | exact HB.out | apply zs_ | apply zt_ | apply zu_) | exact HB.out))) : w.heap.size ≤ gb437)); have n3_ := Aside0.mk ((by rw [hg]; exact (zw_ (by repeat (first | (with_reducible first | exact HB.out | apply zs_ | apply zt_ | apply zu_) | exact HB.out))) : w.heap.size ≤ gb437)); clear HB; have HB := n0_; have BK437 := n1_; have GW437 := n2_; have GE437 := n3_; clear n0_ n1_ n2_ n3_; clear hb hbox hg) | ((with_reducible refine gate_dst (N := 7) rfl ?_); refine box_event ?hg (N := 7) ?hd (cs := #[.int .i64 a3_0, .int .i64 a3_1]) (t := 56) ?hr ?_; (case hd => rfl); (case hg => rfl); (case hr => first | (go_simp; done) | (go_simp; rfl)); intro gb438 hg w57 hbox hb; have n0_ := Aside0.mk (zq_ (g := gb437) (o := .cells #[.int .i64 a0_0, .slice A0_1 l0_1.length c0_1] 54 (0, 0)) (by (with_reducible repeat (first | refine zm_ ?_ _ | refine zn_ ?_ | refine zo_ ?_ _)); exact BK437.out) hb); have n1_ := Aside0.mk (zv_ (by repeat (first | (with_reducible first | exact HB.out | apply zs_ | apply zt_ | apply zu_ | refine zr_ ?_ GE437.out) | exact HB.out)) hb); have n2_ := Aside0.mk (hbox); have n3_ := Aside0.mk ((by rw [hg]; exact (zw_ (by repeat (first | (with_reducible first | exact HB.out | apply zs_ | apply zt_ | apply zu_ | refine zr_ ?_ GE437.out) | exact HB.out))) : w.heap.size ≤ gb438)); have n4_ := Aside0.mk ((by rw [hg]; exact (zw_ (by repeat (first | (with_reducible first | exact HB.out | apply zs_ | apply zt_ | apply zu_ | refine zr_ ?_ GE437.out) | exact HB.out))) : w.heap.size ≤ gb438)); have n5_ := Aside0.mk ((by rw [hg]; exact Nat.ne_of_lt (blk_lt (g := gb437) (o := .cells #[.int .i64 a0_0, .slice A0_1 l0_1.length c0_1] 54 (0, 0)) (by (with_reducible repeat (first | refine zm_ ?_ _ | refine zn_ ?_ | refine zo_ ?_ _)); exact BK437.out)) : gb437 ≠ gb438)); have n6_ := Aside0.mk ((by rw [hg]; exact Nat.ne_of_gt (blk_lt (g := gb437) (o := .cells #[.int .i64 a0_0, .slice A0_1 l0_1.length c0_1] 54 (0, 0)) (by (with_reducible repeat (first | refine zm_ ?_ _ | refine zn_ ?_ | refine zo_ ?_ _)); exact BK437.out)) : gb438 ≠ gb437)); clear BK437; clear HB; have BK437 := n0_; have HB := n1_; have BK438 := n2_; have GW438 := n3_; have GE438 := n4_; have NB437_438 := n5_; have NB438_437 := n6_; clear n0_ n1_ n2_ n3_ n4_ n5_ n6_; clear hb hbox hg) | ((with_reducible refine gate_dst (N := 8) rfl ?_); refine box_event ?hg (N := 8) ?hd (cs := #[.int .i64 0, .int .i64 0, .int .i64 0]) (t := 58) ?hr ?_; (case hd => rfl); (case hg => rfl); (case hr => first | (go_simp; done) | (go_simp; rfl)); intro gb439 hg w58 hbox hb; have n0_ := Aside0.mk (zq_ (g := gb437) (o := .cells #[.int .i64 a0_0, .slice A0_1 l0_1.length c0_1] 54 (0, 0)) (by (with_reducible repeat (first | refine zm_ ?_ _ | refine zn_ ?_ | refine zo_ ?_ _)); exact BK437.out) hb); have n1_ := Aside0.mk (zq_ (g := gb438) (o := .cells #[.int .i64 a3_0, .int .i64 a3_1] 56 (0, 0)) (by (with_reducible repeat (first | refine zm_ ?_ _ | refine zn_ ?_ | refine zo_ ?_ _)); exact BK438.out) hb); have n2_ := Aside0.mk (zv_ (by repeat (first | (with_reducible first | exact HB.out | apply zs_ | apply zt_ | apply zu_ | refine zr_ ?_ GE437.out | refine zr_ ?_ GE438.out) | exact HB.out)) hb); have n3_ := Aside0.mk (hbox); have n4_ := Aside0.mk ((by rw [hg]; exact (zw_ (by repeat (first | (with_reducible first | exact HB.out | apply zs_ | apply zt_ | apply zu_ | refine zr_ ?_ GE437.out | refine zr_ ?_ GE438.out) | exact HB.out))) : w.heap.size ≤ gb439)); have n5_ := Aside0.mk ((by rw [hg]; exact (zw_ (by repeat (first | (with_reducible first | exact HB.out | apply zs_ | apply zt_ | apply zu_ | refine zr_ ?_ GE437.out | refine zr_ ?_ GE438.out) | exact HB.out))) : w.heap.size ≤ gb439)); have n6_ := Aside0.mk ((by rw [hg]; exact Nat.ne_of_lt (blk_lt (g := gb437) (o := .cells #[.int .i64 a0_0, .slice A0_1 l0_1.length c0_1] 54 (0, 0)) (by (with_reducible repeat (first | refine zm_ ?_ _ | refine zn_ ?_ | refine zo_ ?_ _)); exact BK437.out)) : gb437 ≠ gb439)); have n7_ := Aside0.mk ((by rw [hg]; exact Nat.ne_of_gt (blk_lt (g := gb437) (o := .cells #[.int .i64 a0_0, .slice A0_1 l0_1.length c0_1] 54 (0, 0)) (by (with_reducible repeat (first | refine zm_ ?_ _ | refine zn_ ?_ | refine zo_ ?_ _)); exact BK437.out)) : gb439 ≠ gb437)); have n8_ := Aside0.mk ((by rw [hg]; exact Nat.ne_of_lt (blk_lt (g := gb438) (o := .cells #[.int .i64 a3_0, .int .i64 a3_1] 56 (0, 0)) (by (with_reducible repeat (first | refine zm_ ?_ _ | refine zn_ ?_ | refine zo_ ?_ _)); exact BK438.out)) : gb438 ≠ gb439)); have n9_ := Aside0.mk ((by rw [hg]; exact Nat.ne_of_gt (blk_lt (g := gb438) (o := .cells #[.int .i64 a3_0, .int .i64 a3_1] 56 (0, 0)) (by (with_reducible repeat (first | refine zm_ ?_ _ | refine zn_ ?_ | refine zo_ ?_ _)); exact BK438.out)) : gb439 ≠ gb438)); clear BK437; clear BK438; clear HB; have BK437 := n0_; have BK438 := n1_; have HB := n2_; have BK439 := n3_; have GW439 := n4_; have GE439 := n5_; have NB437_439 := n6_; have NB439_437 := n7_; have NB438_439 := n8_; have NB439_438 := n9_; clear n0_ n1_ n2_ n3_ n4_ n5_ n6_ n7_ n8_ n9_; clear hb hbox hg; have hnb59 := NB437_438.out; have hnc59 := NB438_437.out; have hnb60 := NB437_439.out; have hnc60 := NB439_437.out; have hcz61_0 : w58.cell? ⟨gb437, 0, none⟩ = some (.int .i64 a0_0) := (blk_cell BK437.out 0).trans rfl; have hcz61_1 : w58.cell? ⟨gb437, 1, none⟩ = some (.slice A0_1 l0_1.length c0_1) := (blk_cell BK437.out 1).trans rfl; have hfz61_0 := blk_frozen BK437.out 0; have hfz61_1 := blk_frozen BK437.out 1) | ((with_reducible refine gate_callee (f := 43) rfl ?_); refine goesL_ (some 14) rfl rfl Try.func43 (by kernel_rfl) rfl #[.agg #[.int .i64 a0_0, .slice A0_1 l0_1.length c0_1]] rfl (by (try simp only [List.map_toArray, List.map_cons, List.map_nil]); first | done | rfl | (simp only [List.length_drop, List.length_take]; rfl)) ?_; (with_reducible refine (clock_Check.calls k a0_0 _ _ l0_1 t440 _ ?side1 ?side2 A5.out).mono ?_); (case side1 => repeat (first | exact (Kd.C_below HR0_1.out HB.out) | (with_reducible refine Kd.C_alloc ?_ _) | (with_reducible refine Kd.C_drewN ?_ _) | (with_reducible refine Kd.C_drew ?_))); (case side2 => exact HC0_1.out); rintro e w62 ⟨rfl, hb⟩; refine ⟨_, rfl, ?_⟩; have n0_ := Aside0.mk (zq_ (g := gb437) (o := .cells #[.int .i64 a0_0, .slice A0_1 l0_1.length c0_1] 54 (0, 0)) (by (with_reducible repeat (first | refine zm_ ?_ _ | refine zn_ ?_ | refine zo_ ?_ _)); exact BK437.out) hb); have n1_ := Aside0.mk (zq_ (g := gb438) (o := .cells #[.int .i64 a3_0, .int .i64 a3_1] 56 (0, 0)) (by (with_reducible repeat (first | refine zm_ ?_ _ | refine zn_ ?_ | refine zo_ ?_ _)); exact BK438.out) hb); have n2_ := Aside0.mk (zq_ (g := gb439) (o := .cells #[.int .i64 0, .int .i64 0, .int .i64 0] 58 (0, 0)) (by (with_reducible repeat (first | refine zm_ ?_ _ | refine zn_ ?_ | refine zo_ ?_ _)); exact BK439.out) hb); have n3_ := Aside0.mk (zv_ (by repeat (first | (with_reducible first | exact HB.out | apply zs_ | apply zt_ | apply zu_ | refine zr_ ?_ GE437.out | refine zr_ ?_ GE438.out | refine zr_ ?_ GE439.out) | exact HB.out)) hb); clear BK437; clear BK438; clear BK439; clear HB; have BK437 := n0_; have BK438 := n1_; have BK439 := n2_; have HB := n3_; clear n0_ n1_ n2_ n3_; (try clear hb); (try clear hb2); (try clear hk); (try clear hi)) | ((with_reducible refine gate_dst (N := 21) rfl ?_); refine Kd.R_lit (Kd.int .i64) _ 3 ?hg (N := 21) ?hd (xs := ([a1, a2] : List Int)) (inner := [.int .i64 a1, .int .i64 a2]) (ok := fun _ => True) (okp := fun _ => True) ?hr ?hp (fun _ hk => hk) trivial (Below.refl _ _) (Nat.le_refl _) (by simp) ?_; (case hd => rfl); (case hg => rfl); (case hr => first | (go_simp; done) | (go_simp; rfl)); (case hp => exact (Reps.one (show Kd.M (Kd.int .i64) _ _ _ a1 [.int .i64 a1] from rfl) (Reps.one (show Kd.M (Kd.int .i64) _ _ _ a2 [.int .i64 a2] from rfl) (Reps.none _ _)))); intro v442 w63 ho64 hb hg_ hnew_; clear hg_ hnew_; (first | rw [← Ny441.out] at ho64 | (simp only [Int.reduceToNat] at ho64; rw [← Ny441.out] at ho64)); have n0_ := Aside0.mk (zg_ ho64 (zw_ (by repeat (first | (with_reducible first | exact HB.out | apply zs_ | apply zt_ | apply zu_ | refine zr_ ?_ GE437.out | refine zr_ ?_ GE438.out | refine zr_ ?_ GE439.out) | exact HB.out)))); have n1_ := Aside0.mk (zq_ (g := gb437) (o := .cells #[.int .i64 a0_0, .slice A0_1 l0_1.length c0_1] 54 (0, 0)) (by (with_reducible repeat (first | refine zm_ ?_ _ | refine zn_ ?_ | refine zo_ ?_ _)); exact BK437.out) hb); have n2_ := Aside0.mk (zq_ (g := gb438) (o := .cells #[.int .i64 a3_0, .int .i64 a3_1] 56 (0, 0)) (by (with_reducible repeat (first | refine zm_ ?_ _ | refine zn_ ?_ | refine zo_ ?_ _)); exact BK438.out) hb); have n3_ := Aside0.mk (zq_ (g := gb439) (o := .cells #[.int .i64 0, .int .i64 0, .int .i64 0] 58 (0, 0)) (by (with_reducible repeat (first | refine zm_ ?_ _ | refine zn_ ?_ | refine zo_ ?_ _)); exact BK439.out) hb); have n4_ := Aside0.mk (zv_ (by repeat (first | (with_reducible first | exact HB.out | apply zs_ | apply zt_ | apply zu_ | refine zr_ ?_ GE437.out | refine zr_ ?_ GE438.out | refine zr_ ?_ GE439.out) | exact HB.out)) hb); clear BK437; clear BK438; clear BK439; clear HB; have HO443 := n0_; have BK437 := n1_; have BK438 := n2_; have BK439 := n3_; have HB := n4_; clear n0_ n1_ n2_ n3_ n4_; clear hb ho64; obtain ⟨Ao65, co65, eo65⟩ := Kd.R_slice HO443.out; subst eo65) | ((with_reducible refine gate_callee (f := 71) rfl ?_); refine goesL_ (some 22) rfl rfl Try.func71 (by kernel_rfl) rfl #[.slice Ao65 y441.length co65] rfl (by (try simp only [List.map_toArray, List.map_cons, List.map_nil]); first | done | rfl | (simp only [List.length_drop, List.length_take]; rfl)) ?_; (with_reducible refine (clock_instants.calls _ _ y441 false _ ?side1 ?side2 A7.out).mono ?_); (case side1 => repeat (first | exact (zl_ HO443.out).2.2 | (with_reducible refine Kd.C_alloc ?_ _) | (with_reducible refine Kd.C_drewN ?_ _) | (with_reducible refine Kd.C_drew ?_))); (case side2 => exact (zl_ HO443.out).2.1); rintro e w' ⟨rfl, ⟨nd, rfl⟩⟩; refine ⟨_, rfl, ?_⟩; (try (rw [drewN_self w63]; generalize hq_ : World.drewN w63 _ = w63; have n0_ : Aside0 (Kd.R (Kd.int .i64) 3 w63 w.heap.size (fun _ => True) (.slice Ao65 y441.length co65) y441) := ⟨by rw [← hq_]; exact (by (with_reducible repeat (first | apply za_ | apply zb_ | apply zc_)); exact HO443.out)⟩; have n1_ : Aside0 (w63.heap[gb437]? = some (.cells #[.int .i64 a0_0, .slice A0_1 l0_1.length c0_1] 54 (0, 0))) := ⟨by rw [← hq_]; exact (by (with_reducible repeat (first | refine zm_ ?_ _ | refine zn_ ?_ | refine zo_ ?_ _)); exact BK437.out)⟩; have n2_ : Aside0 (w63.heap[gb438]? = some (.cells #[.int .i64 a3_0, .int .i64 a3_1] 56 (0, 0))) := ⟨by rw [← hq_]; exact (by (with_reducible repeat (first | refine zm_ ?_ _ | refine zn_ ?_ | refine zo_ ?_ _)); exact BK438.out)⟩; have n3_ : Aside0 (w63.heap[gb439]? = some (.cells #[.int .i64 0, .int .i64 0, .int .i64 0] 58 (0, 0))) := ⟨by rw [← hq_]; exact (by (with_reducible repeat (first | refine zm_ ?_ _ | refine zn_ ?_ | refine zo_ ?_ _)); exact BK439.out)⟩; have n4_ : Aside0 (Below w.heap.size w w63) := ⟨by rw [← hq_]; exact (by repeat (first | (with_reducible first | exact HB.out | apply zs_ | apply zt_ | apply zu_ | refine zr_ ?_ GE437.out | refine zr_ ?_ GE438.out | refine zr_ ?_ GE439.out) | exact HB.out))⟩; clear HO443 BK437 BK438 BK439 HB hq_; have HO443 := n0_; have BK437 := n1_; have BK438 := n2_; have BK439 := n3_; have HB := n4_; clear n0_ n1_ n2_ n3_ n4_)); have hnb66 := NB439_438.out; have hnc66 := NB438_439.out; have hcz67_0 : w63.cell? ⟨gb439, 0, none⟩ = some (.int .i64 0) := (blk_cell BK439.out 0).trans rfl; have hcz67_1 : w63.cell? ⟨gb439, 1, none⟩ = some (.int .i64 0) := (blk_cell BK439.out 1).trans rfl; have hcz67_2 : w63.cell? ⟨gb439, 2, none⟩ = some (.int .i64 0) := (blk_cell BK439.out 2).trans rfl; have hfz67_0 := blk_frozen BK439.out 0; have hfz67_1 := blk_frozen BK439.out 1; have hfz67_2 := blk_frozen BK439.out 2))
      refine bodyPost_ret (results_ct rfl _ _ gb439 58 #[.int .i64 0, .int .i64 0, .int .i64 0] (0, 0) _ rfl (by (with_reducible repeat (first | refine zm_ ?_ _ | refine zn_ ?_ | refine zo_ ?_ _)); refine blk_put (cs := #[.int .i64 0, .int .i64 0, .int .i64 0]) ?_ 2 _ rfl; (with_reducible repeat (first | refine zm_ ?_ _ | refine zn_ ?_ | refine zo_ ?_ _)); refine blk_put (cs := #[.int .i64 0, .int .i64 0, .int .i64 0]) ?_ 1 _ rfl; (with_reducible repeat (first | refine zm_ ?_ _ | refine zn_ ?_ | refine zo_ ?_ _)); refine blk_put (cs := #[.int .i64 0, .int .i64 0, .int .i64 0]) ?_ 0 _ rfl; (with_reducible repeat (first | refine zm_ ?_ _ | refine zn_ ?_ | refine zo_ ?_ _)); exact BK439.out) Try.underlying58 rfl (by kernel_rfl)) rfl ?_
      exact ⟨by first | rfl | (simp [errW_none, errW_some] <;> rfl) | (simp [*, errW_none, errW_some] <;> rfl), by repeat (first | (with_reducible first | exact HB.out | apply zs_ | apply zt_ | apply zu_ | refine zr_ ?_ GE437.out | refine zr_ ?_ GE438.out | refine zr_ ?_ GE439.out) | exact HB.out)⟩
  · rw [if_neg c6] at H
    have c6b0 : (t440 == 0) = false := beq_eq_false_iff_ne.mpr c6
    have c6b1 : (t440 != 0) = true := bne_iff_ne.mpr c6
    simp only [Option.some.injEq, Prod.mk.injEq] at H
    obtain ⟨rfl, rfl, rfl, rfl⟩ := H
    go_enter Try.func46, Try.ntmps46
    go_wp2_with (first | ((with_reducible refine gate_dst (N := 4) rfl ?_); refine box_event ?hg (N := 4) ?hd (cs := #[.int .i64 a0_0, .slice A0_1 l0_1.length c0_1]) (t := 54) ?hr ?_; (case hd => rfl); (case hg => rfl); (case hr => first | (go_simp; done) | (go_simp; rfl)); intro gb437 hg w68 hbox hb; have n0_ := Aside0.mk (zv_ (by repeat (first | (with_reducible first | exact HB.out | apply zs_ | apply zt_ | apply zu_) | exact HB.out)) hb); have n1_ := Aside0.mk (hbox); have n2_ := Aside0.mk ((by rw [hg]; exact (zw_ (by repeat (first | (with_reducible first | exact HB.out | apply zs_ | apply zt_ | apply zu_) | exact HB.out))) : w.heap.size ≤ gb437)); have n3_ := Aside0.mk ((by rw [hg]; exact (zw_ (by repeat (first | (with_reducible first | exact HB.out | apply zs_ | apply zt_ | apply zu_) | exact HB.out))) : w.heap.size ≤ gb437)); clear HB; have HB := n0_; have BK437 := n1_; have GW437 := n2_; have GE437 := n3_; clear n0_ n1_ n2_ n3_; clear hb hbox hg) | ((with_reducible refine gate_dst (N := 7) rfl ?_); refine box_event ?hg (N := 7) ?hd (cs := #[.int .i64 a3_0, .int .i64 a3_1]) (t := 56) ?hr ?_; (case hd => rfl); (case hg => rfl); (case hr => first | (go_simp; done) | (go_simp; rfl)); intro gb438 hg w69 hbox hb; have n0_ := Aside0.mk (zq_ (g := gb437) (o := .cells #[.int .i64 a0_0, .slice A0_1 l0_1.length c0_1] 54 (0, 0)) (by (with_reducible repeat (first | refine zm_ ?_ _ | refine zn_ ?_ | refine zo_ ?_ _)); exact BK437.out) hb); have n1_ := Aside0.mk (zv_ (by repeat (first | (with_reducible first | exact HB.out | apply zs_ | apply zt_ | apply zu_ | refine zr_ ?_ GE437.out) | exact HB.out)) hb); have n2_ := Aside0.mk (hbox); have n3_ := Aside0.mk ((by rw [hg]; exact (zw_ (by repeat (first | (with_reducible first | exact HB.out | apply zs_ | apply zt_ | apply zu_ | refine zr_ ?_ GE437.out) | exact HB.out))) : w.heap.size ≤ gb438)); have n4_ := Aside0.mk ((by rw [hg]; exact (zw_ (by repeat (first | (with_reducible first | exact HB.out | apply zs_ | apply zt_ | apply zu_ | refine zr_ ?_ GE437.out) | exact HB.out))) : w.heap.size ≤ gb438)); have n5_ := Aside0.mk ((by rw [hg]; exact Nat.ne_of_lt (blk_lt (g := gb437) (o := .cells #[.int .i64 a0_0, .slice A0_1 l0_1.length c0_1] 54 (0, 0)) (by (with_reducible repeat (first | refine zm_ ?_ _ | refine zn_ ?_ | refine zo_ ?_ _)); exact BK437.out)) : gb437 ≠ gb438)); have n6_ := Aside0.mk ((by rw [hg]; exact Nat.ne_of_gt (blk_lt (g := gb437) (o := .cells #[.int .i64 a0_0, .slice A0_1 l0_1.length c0_1] 54 (0, 0)) (by (with_reducible repeat (first | refine zm_ ?_ _ | refine zn_ ?_ | refine zo_ ?_ _)); exact BK437.out)) : gb438 ≠ gb437)); clear BK437; clear HB; have BK437 := n0_; have HB := n1_; have BK438 := n2_; have GW438 := n3_; have GE438 := n4_; have NB437_438 := n5_; have NB438_437 := n6_; clear n0_ n1_ n2_ n3_ n4_ n5_ n6_; clear hb hbox hg) | ((with_reducible refine gate_dst (N := 8) rfl ?_); refine box_event ?hg (N := 8) ?hd (cs := #[.int .i64 0, .int .i64 0, .int .i64 0]) (t := 58) ?hr ?_; (case hd => rfl); (case hg => rfl); (case hr => first | (go_simp; done) | (go_simp; rfl)); intro gb439 hg w70 hbox hb; have n0_ := Aside0.mk (zq_ (g := gb437) (o := .cells #[.int .i64 a0_0, .slice A0_1 l0_1.length c0_1] 54 (0, 0)) (by (with_reducible repeat (first | refine zm_ ?_ _ | refine zn_ ?_ | refine zo_ ?_ _)); exact BK437.out) hb); have n1_ := Aside0.mk (zq_ (g := gb438) (o := .cells #[.int .i64 a3_0, .int .i64 a3_1] 56 (0, 0)) (by (with_reducible repeat (first | refine zm_ ?_ _ | refine zn_ ?_ | refine zo_ ?_ _)); exact BK438.out) hb); have n2_ := Aside0.mk (zv_ (by repeat (first | (with_reducible first | exact HB.out | apply zs_ | apply zt_ | apply zu_ | refine zr_ ?_ GE437.out | refine zr_ ?_ GE438.out) | exact HB.out)) hb); have n3_ := Aside0.mk (hbox); have n4_ := Aside0.mk ((by rw [hg]; exact (zw_ (by repeat (first | (with_reducible first | exact HB.out | apply zs_ | apply zt_ | apply zu_ | refine zr_ ?_ GE437.out | refine zr_ ?_ GE438.out) | exact HB.out))) : w.heap.size ≤ gb439)); have n5_ := Aside0.mk ((by rw [hg]; exact (zw_ (by repeat (first | (with_reducible first | exact HB.out | apply zs_ | apply zt_ | apply zu_ | refine zr_ ?_ GE437.out | refine zr_ ?_ GE438.out) | exact HB.out))) : w.heap.size ≤ gb439)); have n6_ := Aside0.mk ((by rw [hg]; exact Nat.ne_of_lt (blk_lt (g := gb437) (o := .cells #[.int .i64 a0_0, .slice A0_1 l0_1.length c0_1] 54 (0, 0)) (by (with_reducible repeat (first | refine zm_ ?_ _ | refine zn_ ?_ | refine zo_ ?_ _)); exact BK437.out)) : gb437 ≠ gb439)); have n7_ := Aside0.mk ((by rw [hg]; exact Nat.ne_of_gt (blk_lt (g := gb437) (o := .cells #[.int .i64 a0_0, .slice A0_1 l0_1.length c0_1] 54 (0, 0)) (by (with_reducible repeat (first | refine zm_ ?_ _ | refine zn_ ?_ | refine zo_ ?_ _)); exact BK437.out)) : gb439 ≠ gb437)); have n8_ := Aside0.mk ((by rw [hg]; exact Nat.ne_of_lt (blk_lt (g := gb438) (o := .cells #[.int .i64 a3_0, .int .i64 a3_1] 56 (0, 0)) (by (with_reducible repeat (first | refine zm_ ?_ _ | refine zn_ ?_ | refine zo_ ?_ _)); exact BK438.out)) : gb438 ≠ gb439)); have n9_ := Aside0.mk ((by rw [hg]; exact Nat.ne_of_gt (blk_lt (g := gb438) (o := .cells #[.int .i64 a3_0, .int .i64 a3_1] 56 (0, 0)) (by (with_reducible repeat (first | refine zm_ ?_ _ | refine zn_ ?_ | refine zo_ ?_ _)); exact BK438.out)) : gb439 ≠ gb438)); clear BK437; clear BK438; clear HB; have BK437 := n0_; have BK438 := n1_; have HB := n2_; have BK439 := n3_; have GW439 := n4_; have GE439 := n5_; have NB437_439 := n6_; have NB439_437 := n7_; have NB438_439 := n8_; have NB439_438 := n9_; clear n0_ n1_ n2_ n3_ n4_ n5_ n6_ n7_ n8_ n9_; clear hb hbox hg; have hnb71 := NB437_438.out; have hnc71 := NB438_437.out; have hnb72 := NB437_439.out; have hnc72 := NB439_437.out; have hcz73_0 : w70.cell? ⟨gb437, 0, none⟩ = some (.int .i64 a0_0) := (blk_cell BK437.out 0).trans rfl; have hcz73_1 : w70.cell? ⟨gb437, 1, none⟩ = some (.slice A0_1 l0_1.length c0_1) := (blk_cell BK437.out 1).trans rfl; have hfz73_0 := blk_frozen BK437.out 0; have hfz73_1 := blk_frozen BK437.out 1) | ((with_reducible refine gate_callee (f := 43) rfl ?_); refine goesL_ (some 14) rfl rfl Try.func43 (by kernel_rfl) rfl #[.agg #[.int .i64 a0_0, .slice A0_1 l0_1.length c0_1]] rfl (by (try simp only [List.map_toArray, List.map_cons, List.map_nil]); first | done | rfl | (simp only [List.length_drop, List.length_take]; rfl)) ?_; (with_reducible refine (clock_Check.calls k a0_0 _ _ l0_1 t440 _ ?side1 ?side2 A5.out).mono ?_); (case side1 => repeat (first | exact (Kd.C_below HR0_1.out HB.out) | (with_reducible refine Kd.C_alloc ?_ _) | (with_reducible refine Kd.C_drewN ?_ _) | (with_reducible refine Kd.C_drew ?_))); (case side2 => exact HC0_1.out); rintro e w74 ⟨rfl, hb⟩; refine ⟨_, rfl, ?_⟩; have n0_ := Aside0.mk (zq_ (g := gb437) (o := .cells #[.int .i64 a0_0, .slice A0_1 l0_1.length c0_1] 54 (0, 0)) (by (with_reducible repeat (first | refine zm_ ?_ _ | refine zn_ ?_ | refine zo_ ?_ _)); exact BK437.out) hb); have n1_ := Aside0.mk (zq_ (g := gb438) (o := .cells #[.int .i64 a3_0, .int .i64 a3_1] 56 (0, 0)) (by (with_reducible repeat (first | refine zm_ ?_ _ | refine zn_ ?_ | refine zo_ ?_ _)); exact BK438.out) hb); have n2_ := Aside0.mk (zq_ (g := gb439) (o := .cells #[.int .i64 0, .int .i64 0, .int .i64 0] 58 (0, 0)) (by (with_reducible repeat (first | refine zm_ ?_ _ | refine zn_ ?_ | refine zo_ ?_ _)); exact BK439.out) hb); have n3_ := Aside0.mk (zv_ (by repeat (first | (with_reducible first | exact HB.out | apply zs_ | apply zt_ | apply zu_ | refine zr_ ?_ GE437.out | refine zr_ ?_ GE438.out | refine zr_ ?_ GE439.out) | exact HB.out)) hb); clear BK437; clear BK438; clear BK439; clear HB; have BK437 := n0_; have BK438 := n1_; have BK439 := n2_; have HB := n3_; clear n0_ n1_ n2_ n3_; (try clear hb); (try clear hb2); (try clear hk); (try clear hi); have hnb75 := NB439_438.out; have hnc75 := NB438_439.out; have hcz76_0 : w74.cell? ⟨gb439, 0, none⟩ = some (.int .i64 0) := (blk_cell BK439.out 0).trans rfl; have hcz76_1 : w74.cell? ⟨gb439, 1, none⟩ = some (.int .i64 0) := (blk_cell BK439.out 1).trans rfl; have hcz76_2 : w74.cell? ⟨gb439, 2, none⟩ = some (.int .i64 0) := (blk_cell BK439.out 2).trans rfl; have hfz76_0 := blk_frozen BK439.out 0; have hfz76_1 := blk_frozen BK439.out 1; have hfz76_2 := blk_frozen BK439.out 2))
    refine bodyPost_ret (results_ct rfl _ _ gb439 58 #[.int .i64 0, .int .i64 0, .int .i64 0] (0, 0) _ rfl (by (with_reducible repeat (first | refine zm_ ?_ _ | refine zn_ ?_ | refine zo_ ?_ _)); refine blk_put (cs := #[.int .i64 0, .int .i64 0, .int .i64 0]) ?_ 2 _ rfl; (with_reducible repeat (first | refine zm_ ?_ _ | refine zn_ ?_ | refine zo_ ?_ _)); refine blk_put (cs := #[.int .i64 0, .int .i64 0, .int .i64 0]) ?_ 1 _ rfl; (with_reducible repeat (first | refine zm_ ?_ _ | refine zn_ ?_ | refine zo_ ?_ _)); refine blk_put (cs := #[.int .i64 0, .int .i64 0, .int .i64 0]) ?_ 0 _ rfl; (with_reducible repeat (first | refine zm_ ?_ _ | refine zn_ ?_ | refine zo_ ?_ _)); exact BK439.out) Try.underlying58 rfl (by kernel_rfl)) rfl ?_
    exact ⟨by first | rfl | (simp [errW_none, errW_some] <;> rfl) | (simp [*, errW_none, errW_some] <;> rfl), by repeat (first | (with_reducible first | exact HB.out | apply zs_ | apply zt_ | apply zu_ | refine zr_ ?_ GE437.out | refine zr_ ?_ GE438.out | refine zr_ ?_ GE439.out) | exact HB.out)⟩
def clock_Order.f (a0_0 : Int) (a0_1 : Int) (a1_0 : Int) (a1_1 : Int) : Option (Int) := if a0_1 < a1_0 then (some (-1)) else (if a1_1 < a0_0 then (some 1) else (some 0))
set_option maxHeartbeats 8000000 in
set_option maxRecDepth 100000 in
theorem clock_Order.calls (a0_0 : Int) (a0_1 : Int) (a1_0 : Int) (a1_1 : Int) (r : Int) (w : World) (h : clock_Order.f a0_0 a0_1 a1_0 a1_1 = some r) :
    Calls Try.prog 51 #[.agg #[.int .i64 a0_0, .int .i64 a0_1], .agg #[.int .i64 a1_0, .int .i64 a1_1]] w fun e w' => e = .returned (.int .i64 r) ∧ Below w.heap.size w w' := by
  have hu56 := Try.underlying56
  have HB := Aside0.mk (Below.refl w.heap.size w)
  have H : (if a0_1 < a1_0 then (some (-1)) else (if a1_1 < a0_0 then (some 1) else (some 0))) = some r := h
  clear h
  by_cases c3 : a0_1 < a1_0
  · rw [if_pos c3] at H
    have c3b0 : decide (a0_1 < a1_0) = true := decide_eq_true c3
    clear c3
    obtain rfl := Option.some.inj H
    go_enter Try.func51, Try.ntmps51
    go_wp2_with (first | ((with_reducible refine gate_dst (N := 2) rfl ?_); refine box_event ?hg (N := 2) ?hd (cs := #[.int .i64 a0_0, .int .i64 a0_1]) (t := 56) ?hr ?_; (case hd => rfl); (case hg => rfl); (case hr => first | (go_simp; done) | (go_simp; rfl)); intro gb448 hg w4 hbox hb; have n0_ := Aside0.mk (below_step (by repeat (first | (with_reducible first | exact HB.out | apply below_alloc | apply pw_below_drewN | apply below_drew1) | exact HB.out)) hb); have n1_ := Aside0.mk (hbox); have n2_ := Aside0.mk ((by rw [hg]; exact (below_size (by repeat (first | (with_reducible first | exact HB.out | apply below_alloc | apply pw_below_drewN | apply below_drew1) | exact HB.out))) : w.heap.size ≤ gb448)); have n3_ := Aside0.mk ((by rw [hg]; exact (below_size (by repeat (first | (with_reducible first | exact HB.out | apply below_alloc | apply pw_below_drewN | apply below_drew1) | exact HB.out))) : w.heap.size ≤ gb448)); clear HB; have HB := n0_; have BK448 := n1_; have GW448 := n2_; have GE448 := n3_; clear n0_ n1_ n2_ n3_; clear hb hbox hg) | ((with_reducible refine gate_dst (N := 3) rfl ?_); refine box_event ?hg (N := 3) ?hd (cs := #[.int .i64 a1_0, .int .i64 a1_1]) (t := 56) ?hr ?_; (case hd => rfl); (case hg => rfl); (case hr => first | (go_simp; done) | (go_simp; rfl)); intro gb449 hg w5 hbox hb; have n0_ := Aside0.mk (blk_below (g := gb448) (o := .cells #[.int .i64 a0_0, .int .i64 a0_1] 56 (0, 0)) (by (with_reducible repeat (first | refine blk_drewN ?_ _ | refine blk_drew ?_ | refine blk_alloc ?_ _)); exact BK448.out) hb); have n1_ := Aside0.mk (below_step (by repeat (first | (with_reducible first | exact HB.out | apply below_alloc | apply pw_below_drewN | apply below_drew1 | refine below_set ?_ GE448.out) | exact HB.out)) hb); have n2_ := Aside0.mk (hbox); have n3_ := Aside0.mk ((by rw [hg]; exact (below_size (by repeat (first | (with_reducible first | exact HB.out | apply below_alloc | apply pw_below_drewN | apply below_drew1 | refine below_set ?_ GE448.out) | exact HB.out))) : w.heap.size ≤ gb449)); have n4_ := Aside0.mk ((by rw [hg]; exact (below_size (by repeat (first | (with_reducible first | exact HB.out | apply below_alloc | apply pw_below_drewN | apply below_drew1 | refine below_set ?_ GE448.out) | exact HB.out))) : w.heap.size ≤ gb449)); have n5_ := Aside0.mk ((by rw [hg]; exact Nat.ne_of_lt (blk_lt (g := gb448) (o := .cells #[.int .i64 a0_0, .int .i64 a0_1] 56 (0, 0)) (by (with_reducible repeat (first | refine blk_drewN ?_ _ | refine blk_drew ?_ | refine blk_alloc ?_ _)); exact BK448.out)) : gb448 ≠ gb449)); have n6_ := Aside0.mk ((by rw [hg]; exact Nat.ne_of_gt (blk_lt (g := gb448) (o := .cells #[.int .i64 a0_0, .int .i64 a0_1] 56 (0, 0)) (by (with_reducible repeat (first | refine blk_drewN ?_ _ | refine blk_drew ?_ | refine blk_alloc ?_ _)); exact BK448.out)) : gb449 ≠ gb448)); clear BK448; clear HB; have BK448 := n0_; have HB := n1_; have BK449 := n2_; have GW449 := n3_; have GE449 := n4_; have NB448_449 := n5_; have NB449_448 := n6_; clear n0_ n1_ n2_ n3_ n4_ n5_ n6_; clear hb hbox hg; have hnb6 := NB448_449.out; have hnc6 := NB449_448.out; have hcz7_0 : w5.cell? ⟨gb448, 0, none⟩ = some (.int .i64 a0_0) := (blk_cell BK448.out 0).trans rfl; have hcz7_1 : w5.cell? ⟨gb448, 1, none⟩ = some (.int .i64 a0_1) := (blk_cell BK448.out 1).trans rfl; have hfz7_0 := blk_frozen BK448.out 0; have hfz7_1 := blk_frozen BK448.out 1; have hcz8_0 : w5.cell? ⟨gb449, 0, none⟩ = some (.int .i64 a1_0) := (blk_cell BK449.out 0).trans rfl; have hcz8_1 : w5.cell? ⟨gb449, 1, none⟩ = some (.int .i64 a1_1) := (blk_cell BK449.out 1).trans rfl; have hfz8_0 := blk_frozen BK449.out 0; have hfz8_1 := blk_frozen BK449.out 1))
    go_ret
    exact ⟨by first | rfl | (simp [errW_none, errW_some] <;> rfl) | (simp [*, errW_none, errW_some] <;> rfl), by repeat (first | (with_reducible first | exact HB.out | apply below_alloc | apply pw_below_drewN | apply below_drew1 | refine below_set ?_ GE448.out | refine below_set ?_ GE449.out) | exact HB.out)⟩
  · rw [if_neg c3] at H
    have c3b0 : decide (a0_1 < a1_0) = false := decide_eq_false c3
    clear c3
    by_cases c9 : a1_1 < a0_0
    · rw [if_pos c9] at H
      have c9b0 : decide (a1_1 < a0_0) = true := decide_eq_true c9
      clear c9
      obtain rfl := Option.some.inj H
      go_enter Try.func51, Try.ntmps51
      go_wp2_with (first | ((with_reducible refine gate_dst (N := 2) rfl ?_); refine box_event ?hg (N := 2) ?hd (cs := #[.int .i64 a0_0, .int .i64 a0_1]) (t := 56) ?hr ?_; (case hd => rfl); (case hg => rfl); (case hr => first | (go_simp; done) | (go_simp; rfl)); intro gb448 hg w10 hbox hb; have n0_ := Aside0.mk (below_step (by repeat (first | (with_reducible first | exact HB.out | apply below_alloc | apply pw_below_drewN | apply below_drew1) | exact HB.out)) hb); have n1_ := Aside0.mk (hbox); have n2_ := Aside0.mk ((by rw [hg]; exact (below_size (by repeat (first | (with_reducible first | exact HB.out | apply below_alloc | apply pw_below_drewN | apply below_drew1) | exact HB.out))) : w.heap.size ≤ gb448)); have n3_ := Aside0.mk ((by rw [hg]; exact (below_size (by repeat (first | (with_reducible first | exact HB.out | apply below_alloc | apply pw_below_drewN | apply below_drew1) | exact HB.out))) : w.heap.size ≤ gb448)); clear HB; have HB := n0_; have BK448 := n1_; have GW448 := n2_; have GE448 := n3_; clear n0_ n1_ n2_ n3_; clear hb hbox hg) | ((with_reducible refine gate_dst (N := 3) rfl ?_); refine box_event ?hg (N := 3) ?hd (cs := #[.int .i64 a1_0, .int .i64 a1_1]) (t := 56) ?hr ?_; (case hd => rfl); (case hg => rfl); (case hr => first | (go_simp; done) | (go_simp; rfl)); intro gb449 hg w11 hbox hb; have n0_ := Aside0.mk (blk_below (g := gb448) (o := .cells #[.int .i64 a0_0, .int .i64 a0_1] 56 (0, 0)) (by (with_reducible repeat (first | refine blk_drewN ?_ _ | refine blk_drew ?_ | refine blk_alloc ?_ _)); exact BK448.out) hb); have n1_ := Aside0.mk (below_step (by repeat (first | (with_reducible first | exact HB.out | apply below_alloc | apply pw_below_drewN | apply below_drew1 | refine below_set ?_ GE448.out) | exact HB.out)) hb); have n2_ := Aside0.mk (hbox); have n3_ := Aside0.mk ((by rw [hg]; exact (below_size (by repeat (first | (with_reducible first | exact HB.out | apply below_alloc | apply pw_below_drewN | apply below_drew1 | refine below_set ?_ GE448.out) | exact HB.out))) : w.heap.size ≤ gb449)); have n4_ := Aside0.mk ((by rw [hg]; exact (below_size (by repeat (first | (with_reducible first | exact HB.out | apply below_alloc | apply pw_below_drewN | apply below_drew1 | refine below_set ?_ GE448.out) | exact HB.out))) : w.heap.size ≤ gb449)); have n5_ := Aside0.mk ((by rw [hg]; exact Nat.ne_of_lt (blk_lt (g := gb448) (o := .cells #[.int .i64 a0_0, .int .i64 a0_1] 56 (0, 0)) (by (with_reducible repeat (first | refine blk_drewN ?_ _ | refine blk_drew ?_ | refine blk_alloc ?_ _)); exact BK448.out)) : gb448 ≠ gb449)); have n6_ := Aside0.mk ((by rw [hg]; exact Nat.ne_of_gt (blk_lt (g := gb448) (o := .cells #[.int .i64 a0_0, .int .i64 a0_1] 56 (0, 0)) (by (with_reducible repeat (first | refine blk_drewN ?_ _ | refine blk_drew ?_ | refine blk_alloc ?_ _)); exact BK448.out)) : gb449 ≠ gb448)); clear BK448; clear HB; have BK448 := n0_; have HB := n1_; have BK449 := n2_; have GW449 := n3_; have GE449 := n4_; have NB448_449 := n5_; have NB449_448 := n6_; clear n0_ n1_ n2_ n3_ n4_ n5_ n6_; clear hb hbox hg; have hnb12 := NB448_449.out; have hnc12 := NB449_448.out; have hcz13_0 : w11.cell? ⟨gb448, 0, none⟩ = some (.int .i64 a0_0) := (blk_cell BK448.out 0).trans rfl; have hcz13_1 : w11.cell? ⟨gb448, 1, none⟩ = some (.int .i64 a0_1) := (blk_cell BK448.out 1).trans rfl; have hfz13_0 := blk_frozen BK448.out 0; have hfz13_1 := blk_frozen BK448.out 1; have hcz14_0 : w11.cell? ⟨gb449, 0, none⟩ = some (.int .i64 a1_0) := (blk_cell BK449.out 0).trans rfl; have hcz14_1 : w11.cell? ⟨gb449, 1, none⟩ = some (.int .i64 a1_1) := (blk_cell BK449.out 1).trans rfl; have hfz14_0 := blk_frozen BK449.out 0; have hfz14_1 := blk_frozen BK449.out 1))
      go_ret
      exact ⟨by first | rfl | (simp [errW_none, errW_some] <;> rfl) | (simp [*, errW_none, errW_some] <;> rfl), by repeat (first | (with_reducible first | exact HB.out | apply below_alloc | apply pw_below_drewN | apply below_drew1 | refine below_set ?_ GE448.out | refine below_set ?_ GE449.out) | exact HB.out)⟩
    · rw [if_neg c9] at H
      have c9b0 : decide (a1_1 < a0_0) = false := decide_eq_false c9
      clear c9
      obtain rfl := Option.some.inj H
      go_enter Try.func51, Try.ntmps51
      go_wp2_with (first | ((with_reducible refine gate_dst (N := 2) rfl ?_); refine box_event ?hg (N := 2) ?hd (cs := #[.int .i64 a0_0, .int .i64 a0_1]) (t := 56) ?hr ?_; (case hd => rfl); (case hg => rfl); (case hr => first | (go_simp; done) | (go_simp; rfl)); intro gb448 hg w15 hbox hb; have n0_ := Aside0.mk (below_step (by repeat (first | (with_reducible first | exact HB.out | apply below_alloc | apply pw_below_drewN | apply below_drew1) | exact HB.out)) hb); have n1_ := Aside0.mk (hbox); have n2_ := Aside0.mk ((by rw [hg]; exact (below_size (by repeat (first | (with_reducible first | exact HB.out | apply below_alloc | apply pw_below_drewN | apply below_drew1) | exact HB.out))) : w.heap.size ≤ gb448)); have n3_ := Aside0.mk ((by rw [hg]; exact (below_size (by repeat (first | (with_reducible first | exact HB.out | apply below_alloc | apply pw_below_drewN | apply below_drew1) | exact HB.out))) : w.heap.size ≤ gb448)); clear HB; have HB := n0_; have BK448 := n1_; have GW448 := n2_; have GE448 := n3_; clear n0_ n1_ n2_ n3_; clear hb hbox hg) | ((with_reducible refine gate_dst (N := 3) rfl ?_); refine box_event ?hg (N := 3) ?hd (cs := #[.int .i64 a1_0, .int .i64 a1_1]) (t := 56) ?hr ?_; (case hd => rfl); (case hg => rfl); (case hr => first | (go_simp; done) | (go_simp; rfl)); intro gb449 hg w16 hbox hb; have n0_ := Aside0.mk (blk_below (g := gb448) (o := .cells #[.int .i64 a0_0, .int .i64 a0_1] 56 (0, 0)) (by (with_reducible repeat (first | refine blk_drewN ?_ _ | refine blk_drew ?_ | refine blk_alloc ?_ _)); exact BK448.out) hb); have n1_ := Aside0.mk (below_step (by repeat (first | (with_reducible first | exact HB.out | apply below_alloc | apply pw_below_drewN | apply below_drew1 | refine below_set ?_ GE448.out) | exact HB.out)) hb); have n2_ := Aside0.mk (hbox); have n3_ := Aside0.mk ((by rw [hg]; exact (below_size (by repeat (first | (with_reducible first | exact HB.out | apply below_alloc | apply pw_below_drewN | apply below_drew1 | refine below_set ?_ GE448.out) | exact HB.out))) : w.heap.size ≤ gb449)); have n4_ := Aside0.mk ((by rw [hg]; exact (below_size (by repeat (first | (with_reducible first | exact HB.out | apply below_alloc | apply pw_below_drewN | apply below_drew1 | refine below_set ?_ GE448.out) | exact HB.out))) : w.heap.size ≤ gb449)); have n5_ := Aside0.mk ((by rw [hg]; exact Nat.ne_of_lt (blk_lt (g := gb448) (o := .cells #[.int .i64 a0_0, .int .i64 a0_1] 56 (0, 0)) (by (with_reducible repeat (first | refine blk_drewN ?_ _ | refine blk_drew ?_ | refine blk_alloc ?_ _)); exact BK448.out)) : gb448 ≠ gb449)); have n6_ := Aside0.mk ((by rw [hg]; exact Nat.ne_of_gt (blk_lt (g := gb448) (o := .cells #[.int .i64 a0_0, .int .i64 a0_1] 56 (0, 0)) (by (with_reducible repeat (first | refine blk_drewN ?_ _ | refine blk_drew ?_ | refine blk_alloc ?_ _)); exact BK448.out)) : gb449 ≠ gb448)); clear BK448; clear HB; have BK448 := n0_; have HB := n1_; have BK449 := n2_; have GW449 := n3_; have GE449 := n4_; have NB448_449 := n5_; have NB449_448 := n6_; clear n0_ n1_ n2_ n3_ n4_ n5_ n6_; clear hb hbox hg; have hnb17 := NB448_449.out; have hnc17 := NB449_448.out; have hcz18_0 : w16.cell? ⟨gb448, 0, none⟩ = some (.int .i64 a0_0) := (blk_cell BK448.out 0).trans rfl; have hcz18_1 : w16.cell? ⟨gb448, 1, none⟩ = some (.int .i64 a0_1) := (blk_cell BK448.out 1).trans rfl; have hfz18_0 := blk_frozen BK448.out 0; have hfz18_1 := blk_frozen BK448.out 1; have hcz19_0 : w16.cell? ⟨gb449, 0, none⟩ = some (.int .i64 a1_0) := (blk_cell BK449.out 0).trans rfl; have hcz19_1 : w16.cell? ⟨gb449, 1, none⟩ = some (.int .i64 a1_1) := (blk_cell BK449.out 1).trans rfl; have hfz19_0 := blk_frozen BK449.out 0; have hfz19_1 := blk_frozen BK449.out 1))
      go_ret
      exact ⟨by first | rfl | (simp [errW_none, errW_some] <;> rfl) | (simp [*, errW_none, errW_some] <;> rfl), by repeat (first | (with_reducible first | exact HB.out | apply below_alloc | apply pw_below_drewN | apply below_drew1 | refine below_set ?_ GE448.out | refine below_set ?_ GE449.out) | exact HB.out)⟩
end Go.Proofs.Yteknbadjfojmbaa.QA
