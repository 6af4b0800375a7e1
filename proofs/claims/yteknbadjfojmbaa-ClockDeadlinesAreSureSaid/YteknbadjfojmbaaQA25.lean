-- What this claim does not use was left out by prune.py, a program of this session.
import Derived.Test.YteknbadjfojmbaaQA0
import Derived.Test.YteknbadjfojmbaaQA4
import Derived.Test.YteknbadjfojmbaaQA21
import Derived.Test.YteknbadjfojmbaaQA22
namespace Go.Proofs.Yteknbadjfojmbaa.QA
open Go.RowKit Go.Proofs.YteknbadjfojmbaaW.PrintWords Go.Proofs.YteknbadjfojmbaaW.PrintLast Go.Proofs.YteknbadjfojmbaaW.PrintMore
attribute [local go_sem] max2_int min2_int max_two min_two max_three min_three max_four min_four
set_option linter.unusedVariables false
set_option linter.unusedSimpArgs false
def searchN (p : Nat → Bool) : Nat → Nat → Nat → Nat
  | 0, i, _ => i
  | f + 1, i, j => if i < j then (if p ((i + j) / 2) = true then searchN p f i ((i + j) / 2) else searchN p f ((i + j) / 2 + 1) j) else i
set_option maxHeartbeats 4000000 in
theorem sort_Search.calls_ (n : Nat) (hn : n ≤ 4000000000) (g : FuncId) (cap : Array Value) (p : Nat → Bool) (w : World) (hent : ∀ args W, (callFunc g args).run Try.prog W = .ok (.enter g args) W)
    (hcl : ∀ i : Nat, i < n → ∀ W, Below w.heap.size w W → Calls Try.prog g (#[.int .i64 (i : Int)] ++ cap) W fun e W' => e = .returned (.bool (p i)) ∧ Below W.heap.size W W') :
    Calls Try.prog 93 #[.int .i64 (n : Int), .func (.func g) #[] cap] w fun e w' => e = .returned (.int .i64 (searchN p 32 0 n : Int)) ∧ Below w.heap.size w w' := by
  have HCL := Aside0.mk hcl
  clear hcl
  go_enter Try.func93, Try.ntmps93
  go_wp2
  go_loopw [5, 6] (fun v5 v6 wr => ∃ i j f : Nat, i ≤ j ∧ j ≤ n ∧ v5 = .int .i64 (i : Int) ∧ v6 = .int .i64 (j : Int) ∧ Aside0 (j - i < 2 ^ f) ∧ Aside0 (searchN p f i j = searchN p 32 0 n) ∧ Aside0 (Below w.heap.size w wr)) (fun v5 v6 _ => (intOf v6).toNat - (intOf v5).toNat)
  case atStart => exact ⟨0, n, 32, Nat.zero_le _, Nat.le_refl _, rfl, rfl, ⟨by omega⟩, ⟨rfl⟩, ⟨Below.refl _ _⟩⟩
  case round =>
    obtain ⟨i, j, f, hij, hjn, rfl, rfl, HF, HS, HB⟩ := hrel
    by_cases hlt : i < j
    · have hd : decide ((i : Int) < (j : Int)) = true := decide_eq_true (by omega)
      have hdn : decide (i < j) = true := decide_eq_true hlt
      have hh0 : i ≤ (i + j) / 2 ∧ (i + j) / 2 < j := by omega
      obtain ⟨f', rfl⟩ : ∃ f', f = f' + 1 := by
        cases f with
        | zero => have := HF.out; omega
        | succ f' => exact ⟨f', rfl⟩
      have HF' : Aside0 ((i + j) / 2 - i < 2 ^ f' ∧ j - ((i + j) / 2 + 1) < 2 ^ f') := ⟨by have := HF.out; rw [Nat.pow_succ] at this; omega⟩
      obtain ⟨h, hh⟩ : ∃ h, (i + j) / 2 = h := ⟨_, rfl⟩
      have hh2 : ((i : Int) + (j : Int)) / 2 = (h : Int) := by omega
      have HS' : Aside0 (searchN p (f' + 1) i j = if p h = true then searchN p f' i h else searchN p f' (h + 1) j) := ⟨by rw [searchN, if_pos hlt, hh]⟩
      rw [hh] at hh0 HF'
      have HH := Aside0.mk hh
      have HH2 := Aside0.mk hh2
      clear hh hh2 HF
      have hC := HCL.out h (by omega) wr HB.out
      have HC := Aside0.mk hC
      clear hC
      go_wp2_with fail
      rw [HH2.out]
      refine HC.out.mono ?_
      rintro e w' ⟨rfl, hb⟩
      have HB2 := Aside0.mk hb
      clear hb
      by_cases hp : p h = true
      · go_wp2
        go_roundw
        case rel => exact ⟨i, h, f', hh0.1, by omega, rfl, rfl, ⟨HF'.out.1⟩, ⟨by have := HS.out; rw [HS'.out, if_pos hp] at this; exact this⟩, ⟨below_step HB.out HB2.out⟩⟩
        all_goals first | skip
        all_goals simp only [intOf]; omega
      · have hpf : p h = false := by cases h0 : p h with | true => exact absurd h0 hp | false => rfl
        go_wp2
        go_roundw
        case rel => exact ⟨h + 1, j, f', by omega, hjn, by rw [Int.natCast_add]; rfl, rfl, ⟨HF'.out.2⟩, ⟨by have := HS.out; rw [HS'.out, if_neg hp] at this; exact this⟩, ⟨below_step HB.out HB2.out⟩⟩
        all_goals first | skip
        all_goals simp only [intOf]; omega
    · have hd : decide ((i : Int) < (j : Int)) = false := decide_eq_false (by omega)
      have hdn : decide (i < j) = false := decide_eq_false hlt
      go_wp2
      go_ret
      refine ⟨?_, HB.out⟩
      have h1 := HS.out
      have h2 : searchN p f i j = i := by
        cases f with
        | zero => rfl
        | succ f => rw [searchN, if_neg hlt]
      rw [← h1, h2]
      rfl
def clock_first.p (q : Int → Int → Bool) (rate : Int) (l : List S58) (i : Nat) : Bool := match clock_bounds.f rate l (i : Int) with | some (lo, hi) => q lo hi | none => false
set_option maxHeartbeats 4000000 in
theorem clock_first.cond (a0_0 : Int) (A0_1 : Option Addr) (c0_1 : Nat) (l0_1 : List S58) (q : Int → Int → Bool) (gq : FuncId) (capq : Array Value) (gh gc : Nat) (i : Nat) (w : World)
    (hr0_1 : Kd.C k58 w A0_1 l0_1.length l0_1) (hc0_1 : l0_1.length ≤ c0_1) (hok : clock_bounds.ok a0_0 (i : Int) l0_1)
    (hent : ∀ args W, (callFunc gq args).run Try.prog W = .ok (.enter gq args) W)
    (hq : ∀ lo hi W, Below w.heap.size w W → Calls Try.prog gq (#[.int .i64 lo, .int .i64 hi] ++ capq) W fun e W' => e = .returned (.bool (q lo hi)) ∧ Below W.heap.size W W')
    (hh : w.heap[gh]? = some (.cells #[.func (.func gq) #[] capq] 137 (0, 0))) (hc : w.heap[gc]? = some (.cells #[.int .i64 a0_0, .slice A0_1 l0_1.length c0_1] 54 (0, 0))) :
    Calls Try.prog 94 #[.int .i64 (i : Int), .pointer (some ⟨gh, 0, none⟩), .pointer (some ⟨gc, 0, none⟩)] w fun e w' => e = .returned (.bool (clock_first.p q a0_0 l0_1 i)) ∧ Below w.heap.size w w' := by
  obtain ⟨lo, hi, hb⟩ : ∃ lo hi, clock_bounds.f a0_0 l0_1 (i : Int) = some (lo, hi) := ⟨_, _, by unfold clock_bounds.f; rw [if_pos hok]⟩
  have hp : clock_first.p q a0_0 l0_1 i = q lo hi := by unfold clock_first.p; rw [hb]
  have HC := Aside0.mk (fun W (hB : Below w.heap.size w W) => clock_bounds.calls a0_0 A0_1 c0_1 l0_1 (i : Int) lo hi W (Kd.C_below hr0_1 hB) hc0_1 hb)
  have HQ := Aside0.mk hq
  have hc0 : w.cell? ⟨gc, 0, none⟩ = some (.int .i64 a0_0) := (blk_cell hc 0).trans rfl
  have hc1 : w.cell? ⟨gc, 1, none⟩ = some (.slice A0_1 l0_1.length c0_1) := (blk_cell hc 1).trans rfl
  obtain ⟨S, hSdef⟩ : ∃ S : World → Prop, S = fun X => X.heap[gh]? = some (.cells #[.func (.func gq) #[] capq] 137 (0, 0)) ∧ X.heap[gc]? = some (.cells #[.int .i64 a0_0, .slice A0_1 l0_1.length c0_1] 54 (0, 0)) := ⟨_, rfl⟩
  have HS0 : Aside0 (S w.drew) := ⟨by rw [hSdef]; exact ⟨hh, hc⟩⟩
  have HSb : Aside0 (∀ X, Below w.drew.heap.size w.drew X → S X) := ⟨fun X hX => by rw [hSdef]; exact ⟨blk_below (w := w.drew) hh hX, blk_below (w := w.drew) hc hX⟩⟩
  have ls : Aside0 (∀ X, S X → X.cell? ⟨gh, 0, none⟩ = some (.func (.func gq) #[] capq) ∧ X.cell? ⟨gc, 0, none⟩ = some (.int .i64 a0_0) ∧ X.cell? ⟨gc, 1, none⟩ = some (.slice A0_1 l0_1.length c0_1)) := ⟨fun X h => by rw [hSdef] at h; exact ⟨(blk_cell h.1 0).trans rfl, (blk_cell h.2 0).trans rfl, (blk_cell h.2 1).trans rfl⟩⟩
  have HP := Aside0.mk hp
  have hmix : Try.prog.follows .mixedOrders = true := by kernel_rfl
  clear hr0_1 hc0_1 hok hb hq hp hh hc hc0 hc1 hSdef
  refine (callsIn_wide (n := 3)).1 ?_
  refine callsIn_of_wp Try.func94 rfl trivial ?_ rfl
  simp only [Try.ntmps94, List.size_toArray, List.length_cons, List.length_nil, Nat.reduceAdd, Nat.reduceSub, Array.replicate_succ, Array.replicate_zero, List.push_toArray, List.append_toArray, List.nil_append, List.cons_append]
  gi_wp2_with fail
  refine wpIn_region_held S 6 hmix ?_
  refine wpAnyHI_take (i := 0) (v := .func (.func gq) #[] capq) (fun _ => trivial) rfl (by kernel_rfl) (fun _ _ _ h => h) (Or.inl ⟨by kernel_rfl, fun X hX => ?_⟩) HS0.out ?_
  · obtain ⟨q1, q2, q3⟩ := ls.out X hX
    go_simp
  refine wpAnyHI_take (i := 1) (v := .agg #[.int .i64 a0_0, .slice A0_1 l0_1.length c0_1]) (fun _ => trivial) rfl (by kernel_rfl) (fun _ _ _ h => h) (Or.inl ⟨by kernel_rfl, fun X hX => ?_⟩) HS0.out ?_
  · obtain ⟨q1, q2, q3⟩ := ls.out X hX
    go_simp
  refine wpAnyHI_take (i := 2) (v := .int .i64 (i : Int)) (fun _ => trivial) rfl (by kernel_rfl) (fun _ _ _ h => h) (Or.inl ⟨by kernel_rfl, fun X hX => ?_⟩) HS0.out ?_
  · go_simp
  refine wpAnyHI_one (i := 3) (fun _ => trivial) rfl (by kernel_rfl) (fun K' hK' => ?_)
  rw [if_pos (by kernel_rfl)]
  go_simp
  refine ⟨trivial, (callsIn_wide.2 (HC.out _ (below_drew (Below.refl _ _)))).mono ?_⟩
  rintro e W2 ⟨rfl, hb2⟩
  dsimp only
  have HS2 : Aside0 (S W2) := ⟨HSb.out _ hb2⟩
  have HB2 : Aside0 (Below w.heap.size w W2) := ⟨(below_drew (Below.refl _ _)).trans hb2⟩
  clear hb2
  refine hK' _ _ HS2.out ?_
  clear hK' K'
  refine wpAnyHI_take (i := 4) (v := .int .i64 lo) (fun _ => trivial) rfl (by kernel_rfl) (fun _ _ _ h => h) (Or.inl ⟨by kernel_rfl, fun X hX => ?_⟩) HS2.out ?_
  · go_simp
  refine wpAnyHI_take (i := 5) (v := .int .i64 hi) (fun _ => trivial) rfl (by kernel_rfl) (fun _ _ _ h => h) (Or.inl ⟨by kernel_rfl, fun X hX => ?_⟩) HS2.out ?_
  · go_simp
  refine wpAnyHI_mid (fun _ => trivial) rfl (by kernel_rfl) (fun K' hK' => ?_)
  rw [if_pos (by kernel_rfl)]
  go_simp
  refine ⟨trivial, (callsIn_wide.2 (HQ.out lo hi _ HB2.out)).mono ?_⟩
  rintro e W3 ⟨rfl, hb3⟩
  dsimp only
  have HB3 : Aside0 (Below w.heap.size w W3) := ⟨below_step HB2.out hb3⟩
  clear hb3
  refine hK' _ _ ?_
  clear hK' K'
  refine wpAnyIn_take1 (i := 7) (v := .bool (q lo hi)) (fun _ => trivial) rfl (by kernel_rfl) (Or.inl ⟨by kernel_rfl, fun X hX => ?_⟩) ?_
  · go_simp
  refine wpAnyIn_done (by kernel_rfl) ?_ _
  go_simp
  gi_wp2
  go_ret
  exact ⟨by rw [HP.out]; rfl, HB3.out⟩
def clock_first.f (k : Nat) (q : Int → Int → Bool) (a0_0 : Int) (l0_1 : List S58) (due : Int) : Option (Int × Int) :=
  (clock_Check.f k a0_0 l0_1).bind fun t => if t = 0 then ((clock_instants.f [due]).bind fun b => if b = true then (if clock_bounds.ok a0_0 0 l0_1 then some ((searchN (clock_first.p q a0_0 l0_1) 32 0 3600000001 : Nat), 0) else none) else some (0, 3)) else some (0, t)
set_option maxHeartbeats 4000000 in
theorem clock_first.calls (k : Nat) (a0_0 : Int) (A0_1 : Option Addr) (c0_1 : Nat) (l0_1 : List S58) (q : Int → Int → Bool) (gq : FuncId) (capq : Array Value) (due r1 r2 : Int) (w : World)
    (hr0_1 : Kd.C k58 w A0_1 l0_1.length l0_1) (hc0_1 : l0_1.length ≤ c0_1)
    (hent : ∀ args W, (callFunc gq args).run Try.prog W = .ok (.enter gq args) W)
    (hq : ∀ lo hi W, Below w.heap.size w W → Calls Try.prog gq (#[.int .i64 lo, .int .i64 hi] ++ capq) W fun e W' => e = .returned (.bool (q lo hi)) ∧ Below W.heap.size W W')
    (h : clock_first.f k q a0_0 l0_1 due = some (r1, r2)) :
    Calls Try.prog 79 #[.agg #[.int .i64 a0_0, .slice A0_1 l0_1.length c0_1], .int .i64 due, .func (.func gq) #[] capq] w fun e w' => e = .returned (.tuple #[.int .i64 r1, .int .i64 r2]) ∧ Below w.heap.size w w' := by
  unfold clock_first.f at h
  obtain ⟨t, ht, h⟩ := Option.bind_eq_some_iff.mp h
  have HC := Aside0.mk (fun W (hB : Below w.heap.size w W) => clock_Check.calls k a0_0 A0_1 c0_1 l0_1 t W (Kd.C_below hr0_1 hB) hc0_1 ht)
  have HR := Aside0.mk (fun W (hB : Below w.heap.size w W) => Kd.C_below hr0_1 hB)
  have HC0 := Aside0.mk hc0_1
  have HQ := Aside0.mk hq
  have HE := Aside0.mk hent
  clear hr0_1 hc0_1 ht hq hent
  go_enter Try.func79, Try.ntmps79
  go_wp2_with fail
  refine (HC.out _ (below_alloc (below_alloc (Below.refl _ _) _) _)).mono ?_
  rintro e W1 ⟨rfl, hb1⟩
  have hgc := blk_alloc (blk_new w (Obj.cells #[.int .i64 a0_0, .slice A0_1 l0_1.length c0_1] 54)) (Obj.cells #[.func (.func gq) #[] capq] 137)
  have hgh := blk_new (w.alloc (Obj.cells #[.int .i64 a0_0, .slice A0_1 l0_1.length c0_1] 54)) (Obj.cells #[.func (.func gq) #[] capq] 137)
  rw [World.size_alloc] at hgh
  have HGC := Aside0.mk (blk_below hgc hb1)
  have HGH := Aside0.mk (blk_below hgh hb1)
  have HB1 : Aside0 (Below w.heap.size w W1) := ⟨below_step (below_alloc (below_alloc (Below.refl _ _) _) _) hb1⟩
  clear hgc hgh hb1
  by_cases ct : t = 0
  · subst ct
    rw [if_pos rfl] at h
    obtain ⟨b, hb, h⟩ := Option.bind_eq_some_iff.mp h
    have HI := Aside0.mk hb
    clear hb
    go_wp2_with fail
    have hcd := C_ints_ (W := W1.alloc (Obj.cells #[.int .i64 due] 3)) [due] (blk_new _ _) (by simp)
    refine (clock_instants.calls (some ⟨W1.heap.size, 0, none⟩) 1 [due] b _ hcd (Nat.le_refl _) HI.out).mono ?_
    rintro e W2 ⟨rfl, hd2⟩
    have hb2 := hd2.below
    have HB2 : Aside0 (Below w.heap.size w W2) := ⟨below_step (below_alloc HB1.out _) hb2⟩
    have HB12 : Aside0 (Below W1.heap.size W1 W2) := ⟨below_step (below_alloc (Below.refl _ _) _) hb2⟩
    have HGC2 := Aside0.mk (blk_below HGC.out HB12.out)
    have HGH2 := Aside0.mk (blk_below HGH.out HB12.out)
    clear hcd hd2 hb2
    cases b with
    | false =>
      rw [if_neg (by simp)] at h
      simp only [Option.some.injEq, Prod.mk.injEq] at h
      obtain ⟨rfl, rfl⟩ := h
      go_wp2
      go_ret2
      exact ⟨rfl, HB2.out⟩
    | true =>
      rw [if_pos rfl] at h
      split at h
      case isFalse => cases h
      rename_i hok
      simp only [Option.some.injEq, Prod.mk.injEq] at h
      obtain ⟨rfl, rfl⟩ := h
      go_wp2_with fail
      have hS := sort_Search.calls_ 3600000001 (by omega) 94 #[.pointer (some ⟨w.heap.size + 1, 0, none⟩), .pointer (some ⟨w.heap.size, 0, none⟩)] (clock_first.p q a0_0 l0_1) W2 (enters_of Try.func94 (by kernel_rfl) rfl)
        (fun i hi W hW => clock_first.cond a0_0 A0_1 c0_1 l0_1 q gq capq (w.heap.size + 1) w.heap.size i W (HR.out _ (below_step HB2.out hW)) HC0.out (by obtain ⟨k1, k2, k3, k4, k5⟩ := hok; exact ⟨k1, k2, by omega, by omega, k5⟩) HE.out
          (fun lo hi X hX => HQ.out lo hi X (below_step (below_step HB2.out hW) hX)) (blk_below HGH2.out hW) (blk_below HGC2.out hW))
      refine hS.mono ?_
      rintro e W3 ⟨rfl, hb3⟩
      have HB3 : Aside0 (Below w.heap.size w W3) := ⟨below_step HB2.out hb3⟩
      clear hb3 hS
      go_wp2
      go_ret2
      exact ⟨rfl, HB3.out⟩
  · rw [if_neg ct] at h
    have ct1 : (t == 0) = false := beq_eq_false_iff_ne.mpr ct
    have ct2 : (t != 0) = true := bne_iff_ne.mpr ct
    simp only [Option.some.injEq, Prod.mk.injEq] at h
    obtain ⟨rfl, rfl⟩ := h
    go_wp2
    go_ret2
    exact ⟨rfl, HB1.out⟩
theorem clock_Latest_1.calls (lo hi due : Int) (g : Nat) (w : World) (hg : w.heap[g]? = some (.cells #[.int .i64 due] 3 (0, 0))) :
    Calls Try.prog 80 #[.int .i64 lo, .int .i64 hi, .pointer (some ⟨g, 0, none⟩)] w fun e w' => e = .returned (.bool (decide (due < hi))) ∧ Below w.heap.size w w' := by
  have hc : w.cell? ⟨g, 0, none⟩ = some (.int .i64 due) := (blk_cell hg 0).trans rfl
  have HB := Aside0.mk (Below.refl w.heap.size w)
  clear hg
  go_enter Try.func80, Try.ntmps80
  go_wp2
  go_ret
  exact ⟨rfl, HB.out⟩
def clock_Latest.f (k : Nat) (a0_0 : Int) (l0_1 : List S58) (a1 : Int) : Option (Int × Int) :=
  (clock_first.f k (fun lo hi => (fun due => decide (due < hi)) a1) a0_0 l0_1 a1).bind fun t => if t.2 = 0 then (if t.1 = 0 then some (0, 8) else some (wrap64 (t.1 - 1), 0)) else some (0, t.2)
set_option maxHeartbeats 4000000 in
theorem clock_Latest.calls (k : Nat) (a0_0 : Int) (A0_1 : Option Addr) (c0_1 : Nat) (l0_1 : List S58) (a1 : Int) (r1 r2 : Int) (w : World) (hr0_1 : Kd.C k58 w A0_1 l0_1.length l0_1) (hc0_1 : l0_1.length ≤ c0_1) (h : clock_Latest.f k a0_0 l0_1 a1 = some (r1, r2)) :
    Calls Try.prog 53 #[.agg #[.int .i64 a0_0, .slice A0_1 l0_1.length c0_1], .int .i64 a1] w fun e w' => e = .returned (.tuple #[.int .i64 r1, .int .i64 r2]) ∧ Below w.heap.size w w' := by
  unfold clock_Latest.f at h
  obtain ⟨⟨n, e⟩, hf, h⟩ := Option.bind_eq_some_iff.mp h
  dsimp only at h
  have hgd := blk_new (w.alloc (Obj.cells #[.int .i64 a0_0, .slice A0_1 l0_1.length c0_1] 54)) (Obj.cells #[.int .i64 a1] 3)
  rw [World.size_alloc] at hgd
  have hb0 : Below w.heap.size w ((w.alloc (Obj.cells #[.int .i64 a0_0, .slice A0_1 l0_1.length c0_1] 54)).alloc (Obj.cells #[.int .i64 a1] 3)) := below_alloc (below_alloc (Below.refl _ _) _) _
  have HC := Aside0.mk (clock_first.calls k a0_0 A0_1 c0_1 l0_1 (fun lo hi => (fun due => decide (due < hi)) a1) 80 #[.pointer (some ⟨w.heap.size + 1, 0, none⟩)] a1 n e _ (Kd.C_below hr0_1 hb0) hc0_1 (enters_of Try.func80 (by kernel_rfl) rfl)
    (fun lo hi W hW => clock_Latest_1.calls lo hi a1 (w.heap.size + 1) W (blk_below hgd hW)) hf)
  have HB0 := Aside0.mk hb0
  clear hr0_1 hc0_1 hgd hb0 hf
  go_enter Try.func53, Try.ntmps53
  go_wp2_with fail
  refine HC.out.mono ?_
  rintro e W1 ⟨rfl, hb1⟩
  have HB1 : Aside0 (Below w.heap.size w W1) := ⟨below_step HB0.out hb1⟩
  clear hb1 HC
  by_cases ce : e = 0
  · subst ce
    rw [if_pos rfl] at h
    by_cases cn : n = 0
    · rw [if_pos cn] at h
      simp only [Option.some.injEq, Prod.mk.injEq] at h
      obtain ⟨rfl, rfl⟩ := h
      subst cn
      go_wp2
      go_ret2
      exact ⟨rfl, HB1.out⟩
    · rw [if_neg cn] at h
      simp only [Option.some.injEq, Prod.mk.injEq] at h
      obtain ⟨rfl, rfl⟩ := h
      have cn1 : (n == 0) = false := beq_eq_false_iff_ne.mpr cn
      go_wp2
      go_ret2
      exact ⟨rfl, HB1.out⟩
  · rw [if_neg ce] at h
    have ct1 : (e == 0) = false := beq_eq_false_iff_ne.mpr ce
    have ct2 : (e != 0) = true := bne_iff_ne.mpr ce
    simp only [Option.some.injEq, Prod.mk.injEq] at h
    obtain ⟨rfl, rfl⟩ := h
    go_wp2
    go_ret2
    exact ⟨rfl, HB1.out⟩
theorem clock_Earliest_1.calls (lo hi due : Int) (g : Nat) (w : World) (hg : w.heap[g]? = some (.cells #[.int .i64 due] 3 (0, 0))) :
    Calls Try.prog 81 #[.int .i64 lo, .int .i64 hi, .pointer (some ⟨g, 0, none⟩)] w fun e w' => e = .returned (.bool (decide (due ≤ lo))) ∧ Below w.heap.size w w' := by
  have hc : w.cell? ⟨g, 0, none⟩ = some (.int .i64 due) := (blk_cell hg 0).trans rfl
  have HB := Aside0.mk (Below.refl w.heap.size w)
  clear hg
  go_enter Try.func81, Try.ntmps81
  go_wp2
  go_ret
  exact ⟨rfl, HB.out⟩
def clock_Earliest.f (k : Nat) (a0_0 : Int) (l0_1 : List S58) (a1 : Int) : Option (Int × Int) :=
  (clock_first.f k (fun lo hi => (fun due => decide (due ≤ lo)) a1) a0_0 l0_1 a1).bind fun t => if t.2 = 0 then (if 3600000000 < t.1 then some (0, 8) else some (t.1, 0)) else some (0, t.2)
set_option maxHeartbeats 4000000 in
theorem clock_Earliest.calls (k : Nat) (a0_0 : Int) (A0_1 : Option Addr) (c0_1 : Nat) (l0_1 : List S58) (a1 : Int) (r1 r2 : Int) (w : World) (hr0_1 : Kd.C k58 w A0_1 l0_1.length l0_1) (hc0_1 : l0_1.length ≤ c0_1) (h : clock_Earliest.f k a0_0 l0_1 a1 = some (r1, r2)) :
    Calls Try.prog 54 #[.agg #[.int .i64 a0_0, .slice A0_1 l0_1.length c0_1], .int .i64 a1] w fun e w' => e = .returned (.tuple #[.int .i64 r1, .int .i64 r2]) ∧ Below w.heap.size w w' := by
  unfold clock_Earliest.f at h
  obtain ⟨⟨n, e⟩, hf, h⟩ := Option.bind_eq_some_iff.mp h
  dsimp only at h
  have hgd := blk_new (w.alloc (Obj.cells #[.int .i64 a0_0, .slice A0_1 l0_1.length c0_1] 54)) (Obj.cells #[.int .i64 a1] 3)
  rw [World.size_alloc] at hgd
  have hb0 : Below w.heap.size w ((w.alloc (Obj.cells #[.int .i64 a0_0, .slice A0_1 l0_1.length c0_1] 54)).alloc (Obj.cells #[.int .i64 a1] 3)) := below_alloc (below_alloc (Below.refl _ _) _) _
  have HC := Aside0.mk (clock_first.calls k a0_0 A0_1 c0_1 l0_1 (fun lo hi => (fun due => decide (due ≤ lo)) a1) 81 #[.pointer (some ⟨w.heap.size + 1, 0, none⟩)] a1 n e _ (Kd.C_below hr0_1 hb0) hc0_1 (enters_of Try.func81 (by kernel_rfl) rfl)
    (fun lo hi W hW => clock_Earliest_1.calls lo hi a1 (w.heap.size + 1) W (blk_below hgd hW)) hf)
  have HB0 := Aside0.mk hb0
  clear hr0_1 hc0_1 hgd hb0 hf
  go_enter Try.func54, Try.ntmps54
  go_wp2_with fail
  refine HC.out.mono ?_
  rintro e W1 ⟨rfl, hb1⟩
  have HB1 : Aside0 (Below w.heap.size w W1) := ⟨below_step HB0.out hb1⟩
  clear hb1 HC
  by_cases ce : e = 0
  · subst ce
    rw [if_pos rfl] at h
    by_cases cn : 3600000000 < n
    · rw [if_pos cn] at h
      simp only [Option.some.injEq, Prod.mk.injEq] at h
      obtain ⟨rfl, rfl⟩ := h
      have cn1 : decide (3600000000 < n) = true := decide_eq_true cn
      go_wp2
      go_ret2
      exact ⟨rfl, HB1.out⟩
    · rw [if_neg cn] at h
      simp only [Option.some.injEq, Prod.mk.injEq] at h
      obtain ⟨rfl, rfl⟩ := h
      have cn1 : decide (3600000000 < n) = false := decide_eq_false cn
      go_wp2
      go_ret2
      exact ⟨rfl, HB1.out⟩
  · rw [if_neg ce] at h
    have ct1 : (e == 0) = false := beq_eq_false_iff_ne.mpr ce
    have ct2 : (e != 0) = true := bne_iff_ne.mpr ce
    simp only [Option.some.injEq, Prod.mk.injEq] at h
    obtain ⟨rfl, rfl⟩ := h
    go_wp2
    go_ret2
    exact ⟨rfl, HB1.out⟩
def quietuslaw14_when.f (a0 : Int) (a1 : Int) : Option (Int × Int) := some (a0, a1)
set_option maxHeartbeats 8000000 in
set_option maxRecDepth 100000 in
theorem quietuslaw14_when.calls (a0 : Int) (a1 : Int) (r1 : Int) (r2 : Int) (w : World) (h : quietuslaw14_when.f a0 a1 = some (r1, r2)) :
    Calls Try.prog 70 #[.int .i64 a0, .int .i64 a1] w fun e w' => e = .returned (.agg #[.int .i64 r1, .int .i64 r2]) ∧ Below w.heap.size w w' := by
  have hu56 := Try.underlying56
  have HB := Aside0.mk (Below.refl w.heap.size w)
  have H : (some (a0, a1)) = some (r1, r2) := h
  clear h
  simp only [Option.some.injEq, Prod.mk.injEq] at H
  obtain ⟨rfl, rfl⟩ := H
  go_enter Try.func70, Try.ntmps70
  go_wp2_with (first | ((with_reducible refine gate_dst (N := 4) rfl ?_); refine box_event ?hg (N := 4) ?hd (cs := #[.int .i64 0, .int .i64 0]) (t := 56) ?hr ?_; (case hd => rfl); (case hg => rfl); (case hr => first | (go_simp; done) | (go_simp; rfl)); intro gb450 hg w3 hbox hb; have n0_ := Aside0.mk (below_step (by repeat (first | (with_reducible first | exact HB.out | apply below_alloc | apply pw_below_drewN | apply below_drew1) | exact HB.out)) hb); have n1_ := Aside0.mk (hbox); have n2_ := Aside0.mk ((by rw [hg]; exact (below_size (by repeat (first | (with_reducible first | exact HB.out | apply below_alloc | apply pw_below_drewN | apply below_drew1) | exact HB.out))) : w.heap.size ≤ gb450)); have n3_ := Aside0.mk ((by rw [hg]; exact (below_size (by repeat (first | (with_reducible first | exact HB.out | apply below_alloc | apply pw_below_drewN | apply below_drew1) | exact HB.out))) : w.heap.size ≤ gb450)); clear HB; have HB := n0_; have BK450 := n1_; have GW450 := n2_; have GE450 := n3_; clear n0_ n1_ n2_ n3_; clear hb hbox hg; have hcz4_0 : w3.cell? ⟨gb450, 0, none⟩ = some (.int .i64 0) := (blk_cell BK450.out 0).trans rfl; have hcz4_1 : w3.cell? ⟨gb450, 1, none⟩ = some (.int .i64 0) := (blk_cell BK450.out 1).trans rfl; have hfz4_0 := blk_frozen BK450.out 0; have hfz4_1 := blk_frozen BK450.out 1))
  refine bodyPost_ret (results_cell_row rfl _ _ gb450 56 #[.int .i64 a0, .int .i64 a1] (0, 0) _ rfl (by (with_reducible repeat (first | refine blk_drewN ?_ _ | refine blk_drew ?_ | refine blk_alloc ?_ _)); refine blk_put (cs := #[.int .i64 a0, .int .i64 0]) ?_ 1 _ rfl; (with_reducible repeat (first | refine blk_drewN ?_ _ | refine blk_drew ?_ | refine blk_alloc ?_ _)); refine blk_put (cs := #[.int .i64 0, .int .i64 0]) ?_ 0 _ rfl; (with_reducible repeat (first | refine blk_drewN ?_ _ | refine blk_drew ?_ | refine blk_alloc ?_ _)); exact BK450.out) Try.underlying56 rfl (by kernel_rfl)) rfl ?_
  exact ⟨by first | rfl | (simp [errW_none, errW_some] <;> rfl) | (simp [*, errW_none, errW_some] <;> rfl), by repeat (first | (with_reducible first | exact HB.out | apply below_alloc | apply pw_below_drewN | apply below_drew1 | refine below_set ?_ GE450.out) | exact HB.out)⟩
end Go.Proofs.Yteknbadjfojmbaa.QA
