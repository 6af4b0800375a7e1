-- What this claim does not use was left out by prune.py, a program of this session.
import Derived.Test.YteknbadjfojmbaaQA0
import Derived.Test.YteknbadjfojmbaaQA4
import Derived.Test.YteknbadjfojmbaaQA24
import Derived.Test.YteknbadjfojmbaaQA25
namespace Go.Proofs.Yteknbadjfojmbaa.QA
open Go.RowKit Go.Proofs.YteknbadjfojmbaaW.PrintWords Go.Proofs.YteknbadjfojmbaaW.PrintLast Go.Proofs.YteknbadjfojmbaaW.PrintMore
attribute [local go_sem] max2_int min2_int max_two min_two max_three min_three max_four min_four
set_option linter.unusedVariables false
set_option linter.unusedSimpArgs false
structure HdOk (w W : World) (l : List (Nat × Obj)) : Prop where
  hb : Below w.heap.size w W
  held : ∀ (i : Nat) (p : Nat × Obj), l[i]? = some p → W.heap[p.1]? = some p.2
  new : ∀ (i : Nat) (p : Nat × Obj), l[i]? = some p → w.heap.size ≤ p.1
  dec : ∀ (i j : Nat) (p q : Nat × Obj), i < j → l[i]? = some p → l[j]? = some q → q.1 < p.1
theorem HdOk.step {w W W' : World} {l : List (Nat × Obj)} (h : HdOk w W l) (hb : Below W.heap.size W W') : HdOk w W' l :=
  ⟨below_step h.hb hb, fun i p hp => blk_below (h.held i p hp) hb, h.new, h.dec⟩
theorem HdOk.add {w W : World} {l : List (Nat × Obj)} (h : HdOk w W l) (o : Obj) : HdOk w (W.alloc o) ((W.heap.size, o) :: l) :=
  ⟨below_alloc h.hb o, fun i p hp => by
    cases i with
    | zero => obtain rfl := Option.some.inj hp; exact blk_new W o
    | succ i => exact blk_alloc (h.held i p hp) o, fun i p hp => by
    cases i with
    | zero => obtain rfl := Option.some.inj hp; exact h.hb.size
    | succ i => exact h.new i p hp, fun i j p q hij hp hq => by
    cases j with
    | zero => omega
    | succ j =>
      cases i with
      | zero => obtain rfl := Option.some.inj hp; exact (Array.getElem?_eq_some_iff.1 (h.held j q hq)).1
      | succ i => exact h.dec i j p q (by omega) hp hq⟩
theorem HdOk.put {w W : World} {l : List (Nat × Obj)} (h : HdOk w W l) {i g t : Nat} {cs : Array Value} (hi : l[i]? = some (g, .cells cs t (0, 0))) (j : Nat) (u : Value) : HdOk w (W.setCell ⟨g, j, none⟩ u) (l.set i (g, .cells (cs.setIfInBounds j u) t (0, 0))) := by
  have hne : ∀ (k : Nat) (p : Nat × Obj), k ≠ i → l[k]? = some p → p.1 ≠ g := by
    intro k p hk hp e
    rcases Nat.lt_or_gt_of_ne hk with h1 | h1
    · have := h.dec k i _ _ h1 hp hi; simp only at this; omega
    · have := h.dec i k _ _ h1 hi hp; simp only at this; omega
  have hset : ∀ (k : Nat) (p : Nat × Obj), (l.set i (g, .cells (cs.setIfInBounds j u) t (0, 0)))[k]? = some p → k ≠ i ∧ l[k]? = some p ∨ k = i ∧ p = (g, .cells (cs.setIfInBounds j u) t (0, 0)) := by
    intro k p hp
    by_cases hk : i = k
    · subst hk
      rw [List.getElem?_set_self (List.getElem?_eq_some_iff.1 hi).1] at hp
      exact .inr ⟨rfl, (Option.some.inj hp).symm⟩
    · rw [List.getElem?_set_ne hk] at hp
      exact .inl ⟨fun e => hk e.symm, hp⟩
  have hfst : ∀ (k : Nat) (p : Nat × Obj), (l.set i (g, .cells (cs.setIfInBounds j u) t (0, 0)))[k]? = some p → ∃ q, l[k]? = some q ∧ q.1 = p.1 := by
    intro k p hp
    rcases hset k p hp with ⟨_, h2⟩ | ⟨rfl, rfl⟩
    · exact ⟨p, h2, rfl⟩
    · exact ⟨_, hi, rfl⟩
  refine ⟨below_set h.hb (h.new i _ hi), fun k p hp => ?_, fun k p hp => ?_, fun a b p q hab hp hq => ?_⟩
  · rcases hset k p hp with ⟨h1, h2⟩ | ⟨rfl, rfl⟩
    · exact (Below.heap_setCell _ _ _ _ (hne k p h1 h2)).trans (h.held k p h2)
    · exact blk_put (h.held _ _ hi) j u rfl
  · obtain ⟨q, h1, h2⟩ := hfst k p hp
    rw [← h2]; exact h.new k q h1
  · obtain ⟨p', h1, h2⟩ := hfst a p hp
    obtain ⟨q', h3, h4⟩ := hfst b q hq
    rw [← h2, ← h4]
    exact h.dec a b p' q' hab h1 h3
theorem HdOk.tl {w W : World} {p : Nat × Obj} {l : List (Nat × Obj)} (h : HdOk w W (p :: l)) : HdOk w W l :=
  ⟨h.hb, fun i q hq => h.held (i + 1) q hq, fun i q hq => h.new (i + 1) q hq, fun i j a b hij ha hb => h.dec (i + 1) (j + 1) a b (by omega) ha hb⟩
def goOn.ok (now value rate : Int) (l : List S58) (f d kd e la : Int) : Prop := (0 ≤ now ∧ now ≤ 100000) ∧ (0 ≤ value ∧ value ≤ 100000000000000) ∧ (0 ≤ rate ∧ rate ≤ 100000) ∧ (0 ≤ f ∧ f ≤ 65535) ∧ (-2147483648 ≤ d ∧ d ≤ 2147483647) ∧ (0 ≤ kd ∧ kd ≤ 255) ∧ (0 ≤ e ∧ e ≤ 255) ∧ (0 ≤ la ∧ la ≤ 255) ∧ l.length ≤ 1000
instance (now value rate : Int) (l : List S58) (f d kd e la : Int) : Decidable (goOn.ok now value rate l f d kd e la) := by unfold goOn.ok; exact inferInstance
def goOn.val (value rate f d : Int) : Int := value + f % 500 * (1000000 + Int.tmod d (rate + 1))
def goOn.at_ (now f e : Int) : Int := now + e * (f % 500) / 255
def goOn.read (k : Nat) (now value rate : Int) (l : List S58) (f d kd e la : Int) : Option (Int × Int × Int) :=
  if kd % 3 = 2 then
    (clock_Answer.f k rate l (value / 1000000) (goOn.val value rate f d / 1000000) (mx 0 (goOn.at_ now f e - la)) (goOn.at_ now f e + e)).bind fun t =>
      if t.2.2.2 = 0 ∧ t.1 = goOn.val value rate f d / 1000000 ∧ t.2.1 ≤ now + f % 500 ∧ now + f % 500 ≤ t.2.2.1 then some (t.1, t.2.1, t.2.2.1) else none
  else some (goOn.val value rate f d / 1000000, mx 0 (now + f % 500 - e), now + f % 500 + la)
def quietuslaw14_moment_goOn.f (k : Nat) (now value rate : Int) (l : List S58) (f d kd e la : Int) : Option (Int × Int × Int × List S58 × Bool) :=
  if goOn.ok now value rate l f d kd e la then
    (if kd % 3 = 0 then some (now + f % 500, goOn.val value rate f d, rate, l, true) else
      (goOn.read k now value rate l f d kd e la).bind fun r => (clock_Sync.f k rate l r.1 r.2.1 r.2.2).bind fun s =>
        if s.2.2 = 15 then (if 0 < l.length ∧ goOn.val value rate f d / 1000000 ≤ (rd_T58 l ((l.length : Int) - 1)).f0 then some (now + f % 500, goOn.val value rate f d, rate, l, true) else none)
        else if s.2.2 = 0 then some (now + f % 500, goOn.val value rate f d, s.1, s.2.1, true) else none)
  else none
def goOn.Post (base : Nat) (w : World) (r1 r2 r3 : Int) (r4 : List S58) (r5 : Bool) (e : Ending) (w' : World) : Prop :=
  ∃ (A : Option Addr) (c : Nat), e = .returned (.tuple #[.agg #[.int .i64 r1, .int .i64 r2, .int .i64 r3, .slice A r4.length c], .bool r5]) ∧ Kd.Q k58 58 w' base (fun _ => True) (.slice A r4.length c) r4 ∧ r4.length ≤ c ∧ Below w.heap.size w w'
theorem goOn.w64 {n : Int} (h0 : -9223372036854775808 ≤ n) (h1 : n < 9223372036854775808) : IntKind.i64.wrap n = n := by rw [i64_w]; unfold wrap64; omega
theorem goOn.div {n : Int} (h0 : 0 ≤ n) (h1 : n < 9223372036854775808) (m : Int) (hm : 0 < m) : IntKind.i64.wrap (n.tdiv m) = n / m := by
  rw [Int.tdiv_eq_ediv_of_nonneg h0, goOn.w64 (by have := Int.ediv_nonneg h0 (show 0 ≤ m by omega); omega) (by have := Int.ediv_le_self m h0; omega)]
theorem goOn.dv_bd {d rate : Int} (h : 0 ≤ rate) : -rate ≤ Int.tmod d (rate + 1) ∧ Int.tmod d (rate + 1) ≤ rate := by
  have h1 : (Int.tmod d (rate + 1)).natAbs = d.natAbs % (rate + 1).natAbs := Int.natAbs_tmod d (rate + 1)
  have h2 : (d.natAbs % (rate + 1).natAbs) < (rate + 1).natAbs := Nat.mod_lt _ (by omega)
  omega
set_option maxRecDepth 100000 in
set_option maxHeartbeats 1200000 in
theorem quietuslaw14_moment_goOn.calls_ (k base : Nat) (now value rate : Int) (A : Option Addr) (c : Nat) (l : List S58) (f d kd e la : Int) (r1 r2 r3 : Int) (r4 : List S58) (r5 : Bool) (w : World) (hbase : base ≤ w.heap.size) (hq : Kd.Q k58 58 w base (fun _ => True) (.slice A l.length c) l) (hc : l.length ≤ c) (h : quietuslaw14_moment_goOn.f k now value rate l f d kd e la = some (r1, r2, r3, r4, r5)) :
    Calls Try.prog 58 #[.agg #[.int .i64 now, .int .i64 value, .int .i64 rate, .slice A l.length c], .agg #[.int .u16 f, .int .i32 d, .int .u8 kd, .int .u8 e, .int .u8 la]] w (goOn.Post base w r1 r2 r3 r4 r5) := by
  unfold quietuslaw14_moment_goOn.f at h
  by_cases ok : goOn.ok now value rate l f d kd e la
  rotate_left
  · rw [if_neg ok] at h; cases h
  rw [if_pos ok] at h
  have H := Aside0.mk h
  clear h
  have HC := Aside0.mk hc
  clear hc
  obtain ⟨o1, o2, o3, o4, o5, o6, o7, o8, o9⟩ := ok
  have ok0 : Aside0 (HdOk w w []) := ⟨Below.refl _ _, fun i p h => by simp at h, fun i p h => by simp at h, fun i j p q _ h => by simp at h⟩
  have HR := Aside0.mk (Kd.Q_reads' hq).2.2
  have HQ := Aside0.mk hq
  have HBS := Aside0.mk hbase
  clear hq hbase
  have hmix : Try.prog.follows .mixedOrders = true := by kernel_rfl
  go_enter Try.func58, Try.ntmps58
  go_wp2_with fail
  have okn := ((ok0.out.add (.cells #[.int .i64 now, .int .i64 value, .int .i64 rate, .slice A l.length c] 102)).add (.cells #[.int .u16 f, .int .i32 d, .int .u8 kd, .int .u8 e, .int .u8 la] 105)).add (.cells #[.int .i64 0, .int .i64 0, .int .i64 0, .slice none 0 0] 102)
  simp only [World.size_alloc] at okn
  have ok1 := Aside0.mk okn
  clear okn ok0
  generalize ((w.alloc (.cells #[.int .i64 now, .int .i64 value, .int .i64 rate, .slice A l.length c] 102)).alloc (.cells #[.int .u16 f, .int .i32 d, .int .u8 kd, .int .u8 e, .int .u8 la] 105)).alloc (.cells #[.int .i64 0, .int .i64 0, .int .i64 0, .slice none 0 0] 102) = W1 at ok1 ⊢
  refine (wpIn_wide (n := 3)).1 ?_
  obtain ⟨S, hSdef⟩ : ∃ S : World → Prop, S = fun X => HdOk w X [(w.heap.size + 1 + 1, Obj.cells #[.int .i64 0, .int .i64 0, .int .i64 0, .slice none 0 0] 102 (0, 0)), (w.heap.size + 1, Obj.cells #[.int .u16 f, .int .i32 d, .int .u8 kd, .int .u8 e, .int .u8 la] 105 (0, 0)), (w.heap.size, Obj.cells #[.int .i64 now, .int .i64 value, .int .i64 rate, .slice A l.length c] 102 (0, 0))] := ⟨_, rfl⟩
  have ls : Aside0 (∀ X, S X → HdOk w X [(w.heap.size + 1 + 1, Obj.cells #[.int .i64 0, .int .i64 0, .int .i64 0, .slice none 0 0] 102 (0, 0)), (w.heap.size + 1, Obj.cells #[.int .u16 f, .int .i32 d, .int .u8 kd, .int .u8 e, .int .u8 la] 105 (0, 0)), (w.heap.size, Obj.cells #[.int .i64 now, .int .i64 value, .int .i64 rate, .slice A l.length c] 102 (0, 0))]) := ⟨fun X h => by rw [hSdef] at h; exact h⟩
  have lt : Aside0 (∀ X, HdOk w X [(w.heap.size + 1 + 1, Obj.cells #[.int .i64 0, .int .i64 0, .int .i64 0, .slice none 0 0] 102 (0, 0)), (w.heap.size + 1, Obj.cells #[.int .u16 f, .int .i32 d, .int .u8 kd, .int .u8 e, .int .u8 la] 105 (0, 0)), (w.heap.size, Obj.cells #[.int .i64 now, .int .i64 value, .int .i64 rate, .slice A l.length c] 102 (0, 0))] → S X) := ⟨fun X h => by rw [hSdef]; exact h⟩
  have ok1_0 := Aside0.mk (ok1.out.step (below_drew (Below.refl _ _)))
  have hS := Aside0.mk (lt.out _ ok1_0.out)
  clear hSdef
  refine wpIn_region_held S 11 hmix ?_
  refine wpAnyHI_take (i := 0) (v := .pointer (some ⟨w.heap.size, 2, none⟩)) (fun _ => trivial) rfl (by kernel_rfl) (fun _ _ _ h => h) (Or.inl ⟨by kernel_rfl, fun X hX => ?_⟩) (hS.out) ?_
  · go_simp
  refine wpAnyHI_take (i := 1) (v := .agg #[.int .i64 rate, .slice A l.length c]) (fun _ => trivial) rfl (by kernel_rfl) (fun _ _ _ h => h) (Or.inl ⟨by kernel_rfl, fun X hX => ?_⟩) (hS.out) ?_
  · have y2_2 : X.cell? ⟨w.heap.size, 2, none⟩ = some (.int .i64 rate) := (blk_cell ((ls.out X hX).held 2 _ rfl) 2).trans rfl; have y2_3 : X.cell? ⟨w.heap.size, 3, none⟩ = some (.slice A l.length c) := (blk_cell ((ls.out X hX).held 2 _ rfl) 3).trans rfl; go_simp
  refine wpAnyHI_take (i := 2) (v := .pointer (some ⟨w.heap.size, 1, none⟩)) (fun _ => trivial) rfl (by kernel_rfl) (fun _ _ _ h => h) (Or.inl ⟨by kernel_rfl, fun X hX => ?_⟩) (hS.out) ?_
  · go_simp
  refine wpAnyHI_take (i := 3) (v := .int .i64 value) (fun _ => trivial) rfl (by kernel_rfl) (fun _ _ _ h => h) (Or.inl ⟨by kernel_rfl, fun X hX => ?_⟩) (hS.out) ?_
  · have y2_1 : X.cell? ⟨w.heap.size, 1, none⟩ = some (.int .i64 value) := (blk_cell ((ls.out X hX).held 2 _ rfl) 1).trans rfl; go_simp
  refine wpAnyHI_take (i := 4) (v := .int .i64 (value / 1000000)) (fun _ => trivial) rfl (by kernel_rfl) (fun _ _ _ h => h) (Or.inl ⟨by kernel_rfl, fun X hX => ?_⟩) (hS.out) ?_
  · go_simp; exact goOn.div o2.1 (by omega) _ (by omega)
  refine wpAnyHI_take (i := 5) (v := .pointer (some ⟨w.heap.size, 0, none⟩)) (fun _ => trivial) rfl (by kernel_rfl) (fun _ _ _ h => h) (Or.inl ⟨by kernel_rfl, fun X hX => ?_⟩) (hS.out) ?_
  · go_simp
  refine wpAnyHI_take (i := 6) (v := .int .i64 now) (fun _ => trivial) rfl (by kernel_rfl) (fun _ _ _ h => h) (Or.inl ⟨by kernel_rfl, fun X hX => ?_⟩) (hS.out) ?_
  · have y2_0 : X.cell? ⟨w.heap.size, 0, none⟩ = some (.int .i64 now) := (blk_cell ((ls.out X hX).held 2 _ rfl) 0).trans rfl; go_simp
  refine wpAnyHI_one (i := 7) (fun _ => trivial) rfl (by kernel_rfl) (fun K' hK' => ?_)
  rw [if_pos (by kernel_rfl)]
  go_simp
  refine hK' _ _ (lt.out _ ((ok1.out.add (Obj.cells #[.int .i64 0, .slice none 0 0] 54 (0, 0))).step (below_drew (Below.refl _ _))).tl) ?_
  clear hK' K'
  refine wpAnyHI_one (i := 8) (fun _ => trivial) rfl (by kernel_rfl) (fun K' hK' => ?_)
  rw [if_pos (by kernel_rfl)]
  go_simp
  have okz := Aside0.mk ((ok1.out.add (Obj.cells #[.int .i64 rate, .slice A l.length c] 54 (0, 0))).step (below_drew (Below.refl _ _)))
  refine hK' _ _ (lt.out _ okz.out.tl) ?_
  clear hK' K'
  refine wpAnyHI_take (i := 9) (v := .int .i64 (value / 1000000)) (fun _ => trivial) rfl (by kernel_rfl) (fun _ _ _ h => h) (Or.inl ⟨by kernel_rfl, fun X hX => ?_⟩) (lt.out _ okz.out.tl) ?_
  · go_simp
  refine wpAnyHI_take (i := 10) (v := .int .i64 now) (fun _ => trivial) rfl (by kernel_rfl) (fun _ _ _ h => h) (Or.inl ⟨by kernel_rfl, fun X hX => ?_⟩) (lt.out _ okz.out.tl) ?_
  · go_simp
  refine wpAnyHI_done (by kernel_rfl) ?_ _
  go_simp
  have ok2 := okz
  clear okz ls lt hS ok1_0 S
  generalize (W1.alloc (Obj.cells #[.int .i64 rate, .slice A l.length c] 54 (0, 0))).drew = W2 at ok2 ⊢
  have hgt0 : W1.heap.size < W2.heap.size := blk_lt (ok2.out.held 0 _ rfl)
  have hz0_0 : W2.cell? ⟨W1.heap.size, 0, none⟩ = some (.int .i64 rate) := (blk_cell (ok2.out.held 0 _ rfl) 0).trans rfl
  have hz0_1 : W2.cell? ⟨W1.heap.size, 1, none⟩ = some (.slice A l.length c) := (blk_cell (ok2.out.held 0 _ rfl) 1).trans rfl
  have hgt1 : w.heap.size + 1 + 1 < W2.heap.size := blk_lt (ok2.out.held 1 _ rfl)
  have hz1_0 : W2.cell? ⟨w.heap.size + 1 + 1, 0, none⟩ = some (.int .i64 0) := (blk_cell (ok2.out.held 1 _ rfl) 0).trans rfl
  have hz1_1 : W2.cell? ⟨w.heap.size + 1 + 1, 1, none⟩ = some (.int .i64 0) := (blk_cell (ok2.out.held 1 _ rfl) 1).trans rfl
  have hz1_2 : W2.cell? ⟨w.heap.size + 1 + 1, 2, none⟩ = some (.int .i64 0) := (blk_cell (ok2.out.held 1 _ rfl) 2).trans rfl
  have hz1_3 : W2.cell? ⟨w.heap.size + 1 + 1, 3, none⟩ = some (.slice none 0 0) := (blk_cell (ok2.out.held 1 _ rfl) 3).trans rfl
  have hgt2 : w.heap.size + 1 < W2.heap.size := blk_lt (ok2.out.held 2 _ rfl)
  have hz2_0 : W2.cell? ⟨w.heap.size + 1, 0, none⟩ = some (.int .u16 f) := (blk_cell (ok2.out.held 2 _ rfl) 0).trans rfl
  have hz2_1 : W2.cell? ⟨w.heap.size + 1, 1, none⟩ = some (.int .i32 d) := (blk_cell (ok2.out.held 2 _ rfl) 1).trans rfl
  have hz2_2 : W2.cell? ⟨w.heap.size + 1, 2, none⟩ = some (.int .u8 kd) := (blk_cell (ok2.out.held 2 _ rfl) 2).trans rfl
  have hz2_3 : W2.cell? ⟨w.heap.size + 1, 3, none⟩ = some (.int .u8 e) := (blk_cell (ok2.out.held 2 _ rfl) 3).trans rfl
  have hz2_4 : W2.cell? ⟨w.heap.size + 1, 4, none⟩ = some (.int .u8 la) := (blk_cell (ok2.out.held 2 _ rfl) 4).trans rfl
  have hgt3 : w.heap.size < W2.heap.size := blk_lt (ok2.out.held 3 _ rfl)
  have hz3_0 : W2.cell? ⟨w.heap.size, 0, none⟩ = some (.int .i64 now) := (blk_cell (ok2.out.held 3 _ rfl) 0).trans rfl
  have hz3_1 : W2.cell? ⟨w.heap.size, 1, none⟩ = some (.int .i64 value) := (blk_cell (ok2.out.held 3 _ rfl) 1).trans rfl
  have hz3_2 : W2.cell? ⟨w.heap.size, 2, none⟩ = some (.int .i64 rate) := (blk_cell (ok2.out.held 3 _ rfl) 2).trans rfl
  have hz3_3 : W2.cell? ⟨w.heap.size, 3, none⟩ = some (.slice A l.length c) := (blk_cell (ok2.out.held 3 _ rfl) 3).trans rfl
  have hf3_0 : W2.frozen? ⟨w.heap.size, 0, none⟩ = false := blk_frozen (ok2.out.held 3 _ rfl) 0
  have hf3_1 : W2.frozen? ⟨w.heap.size, 1, none⟩ = false := blk_frozen (ok2.out.held 3 _ rfl) 1
  have hf3_2 : W2.frozen? ⟨w.heap.size, 2, none⟩ = false := blk_frozen (ok2.out.held 3 _ rfl) 2
  have hf3_3 : W2.frozen? ⟨w.heap.size, 3, none⟩ = false := blk_frozen (ok2.out.held 3 _ rfl) 3
  have hn0 : 0 ≤ f % 500 ∧ f % 500 ≤ 499 := by omega
  go_upto_region 4 with (fail)
  clear hgt0 hgt1 hgt2 hgt3 hz0_0 hz0_1 hz1_0 hz1_1 hz1_2 hz1_3 hz2_0 hz2_1 hz2_2 hz2_3 hz2_4 hz3_0 hz3_1 hz3_2 hz3_3 hf3_0 hf3_1 hf3_2 hf3_3
  obtain ⟨nw, hnw⟩ : ∃ nw, now + f % 500 = nw := ⟨_, rfl⟩
  have hnb : 0 ≤ nw ∧ nw ≤ 100499 := by omega
  simp only [hnw]
  have HNW := Aside0.mk hnw
  clear hnw
  have ok3 : Aside0 (HdOk w (W2.setCell ⟨w.heap.size, 0, none⟩ (.int .i64 nw)) [(W1.heap.size, Obj.cells #[.int .i64 rate, .slice A l.length c] 54 (0, 0)), (w.heap.size + 1 + 1, Obj.cells #[.int .i64 0, .int .i64 0, .int .i64 0, .slice none 0 0] 102 (0, 0)), (w.heap.size + 1, Obj.cells #[.int .u16 f, .int .i32 d, .int .u8 kd, .int .u8 e, .int .u8 la] 105 (0, 0)), (w.heap.size, Obj.cells #[.int .i64 nw, .int .i64 value, .int .i64 rate, .slice A l.length c] 102 (0, 0))]) := ⟨ok2.out.put (i := 3) rfl 0 (.int .i64 nw)⟩
  generalize W2.setCell ⟨w.heap.size, 0, none⟩ (.int .i64 nw) = W3 at ok3 ⊢
  clear ok2
  obtain ⟨dv, hdv⟩ : ∃ dv, Int.tmod d (rate + 1) = dv := ⟨_, rfl⟩
  have hdb : -rate ≤ dv ∧ dv ≤ rate := by rw [← hdv]; exact goOn.dv_bd o3.1
  have HDV := Aside0.mk hdv
  clear hdv
  obtain ⟨P, hP⟩ : ∃ P, f % 500 * (1000000 + dv) = P := ⟨_, rfl⟩
  have hPb : 0 ≤ P ∧ P ≤ 548900000 := by rw [← hP]; exact ⟨Int.mul_nonneg hn0.1 (by omega), Int.le_trans (Int.mul_le_mul hn0.2 (show 1000000 + dv ≤ 1100000 by omega) (by omega) (by omega)) (by omega)⟩
  have HP := Aside0.mk hP
  clear hP
  refine (wpIn_wide (n := 3)).1 ?_
  obtain ⟨S, hSdef⟩ : ∃ S : World → Prop, S = fun X => HdOk w X [(W1.heap.size, Obj.cells #[.int .i64 rate, .slice A l.length c] 54 (0, 0)), (w.heap.size + 1 + 1, Obj.cells #[.int .i64 0, .int .i64 0, .int .i64 0, .slice none 0 0] 102 (0, 0)), (w.heap.size + 1, Obj.cells #[.int .u16 f, .int .i32 d, .int .u8 kd, .int .u8 e, .int .u8 la] 105 (0, 0)), (w.heap.size, Obj.cells #[.int .i64 nw, .int .i64 value, .int .i64 rate, .slice A l.length c] 102 (0, 0))] := ⟨_, rfl⟩
  have ls : Aside0 (∀ X, S X → HdOk w X [(W1.heap.size, Obj.cells #[.int .i64 rate, .slice A l.length c] 54 (0, 0)), (w.heap.size + 1 + 1, Obj.cells #[.int .i64 0, .int .i64 0, .int .i64 0, .slice none 0 0] 102 (0, 0)), (w.heap.size + 1, Obj.cells #[.int .u16 f, .int .i32 d, .int .u8 kd, .int .u8 e, .int .u8 la] 105 (0, 0)), (w.heap.size, Obj.cells #[.int .i64 nw, .int .i64 value, .int .i64 rate, .slice A l.length c] 102 (0, 0))]) := ⟨fun X h => by rw [hSdef] at h; exact h⟩
  have lt : Aside0 (∀ X, HdOk w X [(W1.heap.size, Obj.cells #[.int .i64 rate, .slice A l.length c] 54 (0, 0)), (w.heap.size + 1 + 1, Obj.cells #[.int .i64 0, .int .i64 0, .int .i64 0, .slice none 0 0] 102 (0, 0)), (w.heap.size + 1, Obj.cells #[.int .u16 f, .int .i32 d, .int .u8 kd, .int .u8 e, .int .u8 la] 105 (0, 0)), (w.heap.size, Obj.cells #[.int .i64 nw, .int .i64 value, .int .i64 rate, .slice A l.length c] 102 (0, 0))] → S X) := ⟨fun X h => by rw [hSdef]; exact h⟩
  have ok3_0 := Aside0.mk (ok3.out.step (below_drew (Below.refl _ _)))
  have hS := Aside0.mk (lt.out _ ok3_0.out)
  clear hSdef
  refine wpIn_region_held S 14 hmix ?_
  refine wpAnyHI_take (i := 0) (v := .pointer (some ⟨w.heap.size, 1, none⟩)) (fun _ => trivial) rfl (by kernel_rfl) (fun _ _ _ h => h) (Or.inl ⟨by kernel_rfl, fun X hX => ?_⟩) (hS.out) ?_
  · go_simp
  refine wpAnyHI_take (i := 1) (v := .int .i64 value) (fun _ => trivial) rfl (by kernel_rfl) (fun _ _ _ h => h) (Or.inl ⟨by kernel_rfl, fun X hX => ?_⟩) (hS.out) ?_
  · have y3_1 : X.cell? ⟨w.heap.size, 1, none⟩ = some (.int .i64 value) := (blk_cell ((ls.out X hX).held 3 _ rfl) 1).trans rfl; go_simp
  refine wpAnyHI_take (i := 2) (v := .int .i64 (f % 500)) (fun _ => trivial) rfl (by kernel_rfl) (fun _ _ _ h => h) (Or.inl ⟨by kernel_rfl, fun X hX => ?_⟩) (hS.out) ?_
  · go_simp
  refine wpAnyHI_take (i := 3) (v := .pointer (some ⟨w.heap.size + 1, 1, none⟩)) (fun _ => trivial) rfl (by kernel_rfl) (fun _ _ _ h => h) (Or.inl ⟨by kernel_rfl, fun X hX => ?_⟩) (hS.out) ?_
  · go_simp
  refine wpAnyHI_take (i := 4) (v := .int .i32 d) (fun _ => trivial) rfl (by kernel_rfl) (fun _ _ _ h => h) (Or.inl ⟨by kernel_rfl, fun X hX => ?_⟩) (hS.out) ?_
  · have y2_1 : X.cell? ⟨w.heap.size + 1, 1, none⟩ = some (.int .i32 d) := (blk_cell ((ls.out X hX).held 2 _ rfl) 1).trans rfl; go_simp
  refine wpAnyHI_take (i := 5) (v := .int .i64 d) (fun _ => trivial) rfl (by kernel_rfl) (fun _ _ _ h => h) (Or.inl ⟨by kernel_rfl, fun X hX => ?_⟩) (hS.out) ?_
  · go_simp; exact goOn.w64 (by omega) (by omega)
  refine wpAnyHI_take (i := 6) (v := .pointer (some ⟨W1.heap.size, 0, none⟩)) (fun _ => trivial) rfl (by kernel_rfl) (fun _ _ _ h => h) (Or.inl ⟨by kernel_rfl, fun X hX => ?_⟩) (hS.out) ?_
  · go_simp
  refine wpAnyHI_take (i := 7) (v := .int .i64 rate) (fun _ => trivial) rfl (by kernel_rfl) (fun _ _ _ h => h) (Or.inl ⟨by kernel_rfl, fun X hX => ?_⟩) (hS.out) ?_
  · have y0_0 : X.cell? ⟨W1.heap.size, 0, none⟩ = some (.int .i64 rate) := (blk_cell ((ls.out X hX).held 0 _ rfl) 0).trans rfl; go_simp
  refine wpAnyHI_take (i := 8) (v := .int .i64 (rate + 1)) (fun _ => trivial) rfl (by kernel_rfl) (fun _ _ _ h => h) (Or.inl ⟨by kernel_rfl, fun X hX => ?_⟩) (hS.out) ?_
  · go_simp; exact goOn.w64 (by omega) (by omega)
  refine wpAnyHI_take (i := 9) (v := .int .i64 dv) (fun _ => trivial) rfl (by kernel_rfl) (fun _ _ _ h => h) (Or.inl ⟨by kernel_rfl, fun X hX => ?_⟩) (hS.out) ?_
  · go_simp; rw [if_neg (by omega), HDV.out]
  refine wpAnyHI_take (i := 10) (v := .int .i64 (1000000 + dv)) (fun _ => trivial) rfl (by kernel_rfl) (fun _ _ _ h => h) (Or.inl ⟨by kernel_rfl, fun X hX => ?_⟩) (hS.out) ?_
  · go_simp; exact goOn.w64 (by omega) (by omega)
  refine wpAnyHI_take (i := 11) (v := .int .i64 P) (fun _ => trivial) rfl (by kernel_rfl) (fun _ _ _ h => h) (Or.inl ⟨by kernel_rfl, fun X hX => ?_⟩) (hS.out) ?_
  · go_simp; rw [HP.out]; exact goOn.w64 (by omega) (by omega)
  refine wpAnyHI_take (i := 12) (v := .int .i64 (value + P)) (fun _ => trivial) rfl (by kernel_rfl) (fun _ _ _ h => h) (Or.inl ⟨by kernel_rfl, fun X hX => ?_⟩) (hS.out) ?_
  · go_simp; exact goOn.w64 (by omega) (by omega)
  refine wpAnyHI_take (i := 13) (v := .pointer (some ⟨w.heap.size, 1, none⟩)) (fun _ => trivial) rfl (by kernel_rfl) (fun _ _ _ h => h) (Or.inl ⟨by kernel_rfl, fun X hX => ?_⟩) (hS.out) ?_
  · go_simp
  have hz0 : W3.drew.cell? ⟨w.heap.size, 0, none⟩ = some (.int .i64 nw) := (blk_cell (ok3_0.out.held 3 _ rfl) 0).trans rfl
  have hz1 : W3.drew.cell? ⟨w.heap.size, 1, none⟩ = some (.int .i64 value) := (blk_cell (ok3_0.out.held 3 _ rfl) 1).trans rfl
  have hz2 : W3.drew.cell? ⟨w.heap.size, 2, none⟩ = some (.int .i64 rate) := (blk_cell (ok3_0.out.held 3 _ rfl) 2).trans rfl
  have hz3 : W3.drew.cell? ⟨w.heap.size, 3, none⟩ = some (.slice A l.length c) := (blk_cell (ok3_0.out.held 3 _ rfl) 3).trans rfl
  have hf0 : W3.drew.frozen? ⟨w.heap.size, 0, none⟩ = false := blk_frozen (ok3_0.out.held 3 _ rfl) 0
  have hf1 : W3.drew.frozen? ⟨w.heap.size, 1, none⟩ = false := blk_frozen (ok3_0.out.held 3 _ rfl) 1
  have hf2 : W3.drew.frozen? ⟨w.heap.size, 2, none⟩ = false := blk_frozen (ok3_0.out.held 3 _ rfl) 2
  have hf3 : W3.drew.frozen? ⟨w.heap.size, 3, none⟩ = false := blk_frozen (ok3_0.out.held 3 _ rfl) 3
  refine wpAnyHI_mid (fun _ => trivial) rfl (by kernel_rfl) (fun K' hK' => ?_)
  rw [if_pos (by kernel_rfl)]
  go_simp
  refine hK' _ _ ?_
  clear hK' K'
  clear hz0 hf0 hz1 hf1 hz2 hf2 hz3 hf3
  refine wpAnyIn_done (by kernel_rfl) ?_ _
  go_simp
  obtain ⟨v2, hv2⟩ : ∃ v2, value + P = v2 := ⟨_, rfl⟩
  have hvb : 0 ≤ v2 ∧ v2 ≤ 100000548900000 := by omega
  simp only [hv2]
  have HV2 := Aside0.mk hv2
  clear hv2
  have ok4 : Aside0 (HdOk w (W3.setCell ⟨w.heap.size, 1, none⟩ (.int .i64 v2)).drew [(W1.heap.size, Obj.cells #[.int .i64 rate, .slice A l.length c] 54 (0, 0)), (w.heap.size + 1 + 1, Obj.cells #[.int .i64 0, .int .i64 0, .int .i64 0, .slice none 0 0] 102 (0, 0)), (w.heap.size + 1, Obj.cells #[.int .u16 f, .int .i32 d, .int .u8 kd, .int .u8 e, .int .u8 la] 105 (0, 0)), (w.heap.size, Obj.cells #[.int .i64 nw, .int .i64 v2, .int .i64 rate, .slice A l.length c] 102 (0, 0))]) := ⟨(ok3.out.put (i := 3) rfl 1 (.int .i64 v2)).step (below_drew (Below.refl _ _))⟩
  generalize (W3.setCell ⟨w.heap.size, 1, none⟩ (.int .i64 v2)).drew = W4 at ok4 ⊢
  clear ok3 ls lt hS ok3_0 S
  have hlb : 0 ≤ v2 / 1000000 ∧ v2 / 1000000 ≤ 100000548 := by omega
  obtain ⟨lo, hlo⟩ : ∃ lo, (if 0 < nw - e then nw - e else 0) = lo := ⟨_, rfl⟩
  have hlo2 : (if e < nw then nw - e else 0) = lo := by rw [← hlo]; split <;> split <;> omega
  have hlob : 0 ≤ lo ∧ lo ≤ 100499 := by rw [← hlo]; split <;> omega
  obtain ⟨hi, hhi⟩ : ∃ hi, nw + la = hi := ⟨_, rfl⟩
  have hhib : 0 ≤ hi ∧ hi ≤ 100754 := by omega
  have hgt0 : W1.heap.size < W4.heap.size := blk_lt (ok4.out.held 0 _ rfl)
  have hz0_0 : W4.cell? ⟨W1.heap.size, 0, none⟩ = some (.int .i64 rate) := (blk_cell (ok4.out.held 0 _ rfl) 0).trans rfl
  have hz0_1 : W4.cell? ⟨W1.heap.size, 1, none⟩ = some (.slice A l.length c) := (blk_cell (ok4.out.held 0 _ rfl) 1).trans rfl
  have hgt1 : w.heap.size + 1 + 1 < W4.heap.size := blk_lt (ok4.out.held 1 _ rfl)
  have hz1_0 : W4.cell? ⟨w.heap.size + 1 + 1, 0, none⟩ = some (.int .i64 0) := (blk_cell (ok4.out.held 1 _ rfl) 0).trans rfl
  have hz1_1 : W4.cell? ⟨w.heap.size + 1 + 1, 1, none⟩ = some (.int .i64 0) := (blk_cell (ok4.out.held 1 _ rfl) 1).trans rfl
  have hz1_2 : W4.cell? ⟨w.heap.size + 1 + 1, 2, none⟩ = some (.int .i64 0) := (blk_cell (ok4.out.held 1 _ rfl) 2).trans rfl
  have hz1_3 : W4.cell? ⟨w.heap.size + 1 + 1, 3, none⟩ = some (.slice none 0 0) := (blk_cell (ok4.out.held 1 _ rfl) 3).trans rfl
  have hgt2 : w.heap.size + 1 < W4.heap.size := blk_lt (ok4.out.held 2 _ rfl)
  have hz2_0 : W4.cell? ⟨w.heap.size + 1, 0, none⟩ = some (.int .u16 f) := (blk_cell (ok4.out.held 2 _ rfl) 0).trans rfl
  have hz2_1 : W4.cell? ⟨w.heap.size + 1, 1, none⟩ = some (.int .i32 d) := (blk_cell (ok4.out.held 2 _ rfl) 1).trans rfl
  have hz2_2 : W4.cell? ⟨w.heap.size + 1, 2, none⟩ = some (.int .u8 kd) := (blk_cell (ok4.out.held 2 _ rfl) 2).trans rfl
  have hz2_3 : W4.cell? ⟨w.heap.size + 1, 3, none⟩ = some (.int .u8 e) := (blk_cell (ok4.out.held 2 _ rfl) 3).trans rfl
  have hz2_4 : W4.cell? ⟨w.heap.size + 1, 4, none⟩ = some (.int .u8 la) := (blk_cell (ok4.out.held 2 _ rfl) 4).trans rfl
  have hgt3 : w.heap.size < W4.heap.size := blk_lt (ok4.out.held 3 _ rfl)
  have hz3_0 : W4.cell? ⟨w.heap.size, 0, none⟩ = some (.int .i64 nw) := (blk_cell (ok4.out.held 3 _ rfl) 0).trans rfl
  have hz3_1 : W4.cell? ⟨w.heap.size, 1, none⟩ = some (.int .i64 v2) := (blk_cell (ok4.out.held 3 _ rfl) 1).trans rfl
  have hz3_2 : W4.cell? ⟨w.heap.size, 2, none⟩ = some (.int .i64 rate) := (blk_cell (ok4.out.held 3 _ rfl) 2).trans rfl
  have hz3_3 : W4.cell? ⟨w.heap.size, 3, none⟩ = some (.slice A l.length c) := (blk_cell (ok4.out.held 3 _ rfl) 3).trans rfl
  go_wp2_with fail
  refine (quietuslaw14_when.calls lo hi lo hi _ rfl).mono ?_
  rintro ee W5 ⟨rfl, hb⟩
  have ok5 := Aside0.mk (ok4.out.step hb)
  clear hb
  have HLO := Aside0.mk hlo
  have HHI := Aside0.mk hhi
  clear hgt0 hgt1 hgt2 hgt3 hz0_0 hz0_1 hz1_0 hz1_1 hz1_2 hz1_3 hz2_0 hz2_1 hz2_2 hz2_3 hz2_4 hz3_0 hz3_1 hz3_2 hz3_3
  clear hlo hlo2 hhi ok4
  have hgt0 : W1.heap.size < W5.heap.size := blk_lt (ok5.out.held 0 _ rfl)
  have hz0_0 : W5.cell? ⟨W1.heap.size, 0, none⟩ = some (.int .i64 rate) := (blk_cell (ok5.out.held 0 _ rfl) 0).trans rfl
  have hz0_1 : W5.cell? ⟨W1.heap.size, 1, none⟩ = some (.slice A l.length c) := (blk_cell (ok5.out.held 0 _ rfl) 1).trans rfl
  have hgt1 : w.heap.size + 1 + 1 < W5.heap.size := blk_lt (ok5.out.held 1 _ rfl)
  have hz1_0 : W5.cell? ⟨w.heap.size + 1 + 1, 0, none⟩ = some (.int .i64 0) := (blk_cell (ok5.out.held 1 _ rfl) 0).trans rfl
  have hz1_1 : W5.cell? ⟨w.heap.size + 1 + 1, 1, none⟩ = some (.int .i64 0) := (blk_cell (ok5.out.held 1 _ rfl) 1).trans rfl
  have hz1_2 : W5.cell? ⟨w.heap.size + 1 + 1, 2, none⟩ = some (.int .i64 0) := (blk_cell (ok5.out.held 1 _ rfl) 2).trans rfl
  have hz1_3 : W5.cell? ⟨w.heap.size + 1 + 1, 3, none⟩ = some (.slice none 0 0) := (blk_cell (ok5.out.held 1 _ rfl) 3).trans rfl
  have hgt2 : w.heap.size + 1 < W5.heap.size := blk_lt (ok5.out.held 2 _ rfl)
  have hz2_0 : W5.cell? ⟨w.heap.size + 1, 0, none⟩ = some (.int .u16 f) := (blk_cell (ok5.out.held 2 _ rfl) 0).trans rfl
  have hz2_1 : W5.cell? ⟨w.heap.size + 1, 1, none⟩ = some (.int .i32 d) := (blk_cell (ok5.out.held 2 _ rfl) 1).trans rfl
  have hz2_2 : W5.cell? ⟨w.heap.size + 1, 2, none⟩ = some (.int .u8 kd) := (blk_cell (ok5.out.held 2 _ rfl) 2).trans rfl
  have hz2_3 : W5.cell? ⟨w.heap.size + 1, 3, none⟩ = some (.int .u8 e) := (blk_cell (ok5.out.held 2 _ rfl) 3).trans rfl
  have hz2_4 : W5.cell? ⟨w.heap.size + 1, 4, none⟩ = some (.int .u8 la) := (blk_cell (ok5.out.held 2 _ rfl) 4).trans rfl
  have hgt3 : w.heap.size < W5.heap.size := blk_lt (ok5.out.held 3 _ rfl)
  have hz3_0 : W5.cell? ⟨w.heap.size, 0, none⟩ = some (.int .i64 nw) := (blk_cell (ok5.out.held 3 _ rfl) 0).trans rfl
  have hz3_1 : W5.cell? ⟨w.heap.size, 1, none⟩ = some (.int .i64 v2) := (blk_cell (ok5.out.held 3 _ rfl) 1).trans rfl
  have hz3_2 : W5.cell? ⟨w.heap.size, 2, none⟩ = some (.int .i64 rate) := (blk_cell (ok5.out.held 3 _ rfl) 2).trans rfl
  have hz3_3 : W5.cell? ⟨w.heap.size, 3, none⟩ = some (.slice A l.length c) := (blk_cell (ok5.out.held 3 _ rfl) 3).trans rfl
  by_cases c0 : kd % 3 = 0
  · have c0b : ((kd % 3) == 0) = true := beq_iff_eq.mpr c0
    have hf0 : W5.frozen? ⟨w.heap.size + 1 + 1, 0, none⟩ = false := blk_frozen (ok5.out.held 1 _ rfl) 0
    have hf1 : W5.frozen? ⟨w.heap.size + 1 + 1, 1, none⟩ = false := blk_frozen (ok5.out.held 1 _ rfl) 1
    have hf2 : W5.frozen? ⟨w.heap.size + 1 + 1, 2, none⟩ = false := blk_frozen (ok5.out.held 1 _ rfl) 2
    have hf3 : W5.frozen? ⟨w.heap.size + 1 + 1, 3, none⟩ = false := blk_frozen (ok5.out.held 1 _ rfl) 3
    go_wp2_with fail
    have h0 := H.out
    rw [if_pos c0] at h0
    unfold goOn.val at h0
    rw [HDV.out, HP.out, HV2.out, HNW.out] at h0
    simp only [Option.some.injEq, Prod.mk.injEq] at h0
    obtain ⟨rfl, rfl, rfl, rfl, rfl⟩ := h0
    have p0 : HdOk w _ [(W1.heap.size, Obj.cells #[.int .i64 rate, .slice A l.length c] 54 (0, 0)), (w.heap.size + 1 + 1, Obj.cells #[.int .i64 nw, .int .i64 0, .int .i64 0, .slice none 0 0] 102 (0, 0)), (w.heap.size + 1, Obj.cells #[.int .u16 f, .int .i32 d, .int .u8 kd, .int .u8 e, .int .u8 la] 105 (0, 0)), (w.heap.size, Obj.cells #[.int .i64 nw, .int .i64 v2, .int .i64 rate, .slice A l.length c] 102 (0, 0))] := ok5.out.put (i := 1) rfl 0 (.int .i64 nw)
    have p1 : HdOk w _ [(W1.heap.size, Obj.cells #[.int .i64 rate, .slice A l.length c] 54 (0, 0)), (w.heap.size + 1 + 1, Obj.cells #[.int .i64 nw, .int .i64 v2, .int .i64 0, .slice none 0 0] 102 (0, 0)), (w.heap.size + 1, Obj.cells #[.int .u16 f, .int .i32 d, .int .u8 kd, .int .u8 e, .int .u8 la] 105 (0, 0)), (w.heap.size, Obj.cells #[.int .i64 nw, .int .i64 v2, .int .i64 rate, .slice A l.length c] 102 (0, 0))] := p0.put (i := 1) rfl 1 (.int .i64 v2)
    have p2 : HdOk w _ [(W1.heap.size, Obj.cells #[.int .i64 rate, .slice A l.length c] 54 (0, 0)), (w.heap.size + 1 + 1, Obj.cells #[.int .i64 nw, .int .i64 v2, .int .i64 rate, .slice none 0 0] 102 (0, 0)), (w.heap.size + 1, Obj.cells #[.int .u16 f, .int .i32 d, .int .u8 kd, .int .u8 e, .int .u8 la] 105 (0, 0)), (w.heap.size, Obj.cells #[.int .i64 nw, .int .i64 v2, .int .i64 rate, .slice A l.length c] 102 (0, 0))] := p1.put (i := 1) rfl 2 (.int .i64 rate)
    have p3 : HdOk w _ [(W1.heap.size, Obj.cells #[.int .i64 rate, .slice A l.length c] 54 (0, 0)), (w.heap.size + 1 + 1, Obj.cells #[.int .i64 nw, .int .i64 v2, .int .i64 rate, .slice A l.length c] 102 (0, 0)), (w.heap.size + 1, Obj.cells #[.int .u16 f, .int .i32 d, .int .u8 kd, .int .u8 e, .int .u8 la] 105 (0, 0)), (w.heap.size, Obj.cells #[.int .i64 nw, .int .i64 v2, .int .i64 rate, .slice A l.length c] 102 (0, 0))] := p2.put (i := 1) rfl 3 (.slice A l.length c)
    have okf : HdOk w _ [(_, Obj.cells #[.int .i64 (v2 / 1000000), .int .i64 lo, .int .i64 hi] 58 (0, 0)), (W1.heap.size, Obj.cells #[.int .i64 rate, .slice A l.length c] 54 (0, 0)), (w.heap.size + 1 + 1, Obj.cells #[.int .i64 nw, .int .i64 v2, .int .i64 rate, .slice A l.length c] 102 (0, 0)), (w.heap.size + 1, Obj.cells #[.int .u16 f, .int .i32 d, .int .u8 kd, .int .u8 e, .int .u8 la] 105 (0, 0)), (w.heap.size, Obj.cells #[.int .i64 nw, .int .i64 v2, .int .i64 rate, .slice A l.length c] 102 (0, 0))] := p3.add (Obj.cells #[.int .i64 (v2 / 1000000), .int .i64 lo, .int .i64 hi] 58 (0, 0))
    have hf : _ = some (Obj.cells #[.int .i64 nw, .int .i64 v2, .int .i64 rate, .slice A l.length c] 102 (0, 0)) := okf.held 2 (w.heap.size + 1 + 1, Obj.cells #[.int .i64 nw, .int .i64 v2, .int .i64 rate, .slice A l.length c] 102 (0, 0)) rfl
    refine bodyPost_ret (results_ct rfl _ _ (w.heap.size + 1 + 1) 102 #[.int .i64 nw, .int .i64 v2, .int .i64 rate, .slice A l.length c] (0, 0) _ rfl hf Try.underlying102 rfl (by kernel_rfl)) rfl ?_
    exact ⟨_, _, rfl, Kd.Q_below HQ.out okf.hb, HC.out, okf.hb⟩
  · have c0b : ((kd % 3) == 0) = false := beq_eq_false_iff_ne.mpr c0
    by_cases c2 : kd % 3 = 2
    · have c2b : ((kd % 3) == 2) = true := beq_iff_eq.mpr c2
      have h0 := H.out
      rw [if_neg c0] at h0
      unfold goOn.read at h0
      rw [if_pos c2] at h0
      unfold goOn.val goOn.at_ at h0
      rw [HDV.out, HP.out, HV2.out, HNW.out] at h0
      obtain ⟨Q2, hQ2⟩ : ∃ q, e * (f % 500) = q := ⟨_, rfl⟩
      have hQb : 0 ≤ Q2 ∧ Q2 ≤ 127245 := by rw [← hQ2]; exact ⟨Int.mul_nonneg o7.1 hn0.1, Int.le_trans (Int.mul_le_mul o7.2 hn0.2 hn0.1 (by omega)) (by omega)⟩
      obtain ⟨at_, hat⟩ : ∃ q, now + Q2 / 255 = q := ⟨_, rfl⟩
      have hatb : 0 ≤ at_ ∧ at_ ≤ 100499 := by omega
      obtain ⟨lo2, hl2⟩ : ∃ q, mx 0 (at_ - la) = q := ⟨_, rfl⟩
      rw [hQ2, hat, hl2] at h0
      have hlb2 : 0 ≤ lo2 ∧ lo2 ≤ 100499 := by rw [← hl2]; unfold mx; split <;> omega
      obtain ⟨⟨ra, rb, rc⟩, hr1, h1⟩ := Option.bind_eq_some_iff.1 h0
      clear h0
      obtain ⟨⟨t1, t2, t3, t4⟩, hans, h2⟩ := Option.bind_eq_some_iff.1 hr1
      clear hr1
      have HA := Aside0.mk hans
      clear hans
      by_cases ct : t4 = 0 ∧ t1 = v2 / 1000000 ∧ t2 ≤ nw ∧ nw ≤ t3
      rotate_left
      · rw [if_neg ct] at h2; cases h2
      rw [if_pos ct] at h2
      simp only [Option.some.injEq, Prod.mk.injEq] at h2
      obtain ⟨rfl, rfl, rfl⟩ := h2
      obtain ⟨rfl, rfl, ct1, ct2⟩ := ct
      obtain ⟨⟨s1, s2, s3⟩, hs, h1⟩ := Option.bind_eq_some_iff.1 h1
      have HS := Aside0.mk hs
      have H1 := Aside0.mk h1
      clear hs h1
      have hl3 : (if 0 < at_ - la then at_ - la else 0) = lo2 := by rw [← hl2]; rfl
      have hl4 : (if la < at_ then at_ - la else 0) = lo2 := by rw [← hl3]; split <;> split <;> omega
      clear hl2
      go_upto_region 13 with (fail)
      have ok6 : Aside0 (HdOk w _ [(_, Obj.cells #[.int .i64 (v2 / 1000000), .int .i64 lo, .int .i64 hi] 58 (0, 0)), (W1.heap.size, Obj.cells #[.int .i64 rate, .slice A l.length c] 54 (0, 0)), (w.heap.size + 1 + 1, Obj.cells #[.int .i64 0, .int .i64 0, .int .i64 0, .slice none 0 0] 102 (0, 0)), (w.heap.size + 1, Obj.cells #[.int .u16 f, .int .i32 d, .int .u8 kd, .int .u8 e, .int .u8 la] 105 (0, 0)), (w.heap.size, Obj.cells #[.int .i64 nw, .int .i64 v2, .int .i64 rate, .slice A l.length c] 102 (0, 0))]) := ⟨ok5.out.add (Obj.cells #[.int .i64 (v2 / 1000000), .int .i64 lo, .int .i64 hi] 58 (0, 0))⟩
      generalize W5.alloc (Obj.cells #[.int .i64 (v2 / 1000000), .int .i64 lo, .int .i64 hi] 58 (0, 0)) = W6 at ok6 ⊢
      clear hgt0 hgt1 hgt2 hgt3 hz0_0 hz0_1 hz1_0 hz1_1 hz1_2 hz1_3 hz2_0 hz2_1 hz2_2 hz2_3 hz2_4 hz3_0 hz3_1 hz3_2 hz3_3
      refine (wpIn_wide (n := 3)).1 ?_
      obtain ⟨S, hSdef⟩ : ∃ S : World → Prop, S = fun X => HdOk w X [(W1.heap.size, Obj.cells #[.int .i64 rate, .slice A l.length c] 54 (0, 0)), (w.heap.size + 1 + 1, Obj.cells #[.int .i64 0, .int .i64 0, .int .i64 0, .slice none 0 0] 102 (0, 0)), (w.heap.size + 1, Obj.cells #[.int .u16 f, .int .i32 d, .int .u8 kd, .int .u8 e, .int .u8 la] 105 (0, 0)), (w.heap.size, Obj.cells #[.int .i64 nw, .int .i64 v2, .int .i64 rate, .slice A l.length c] 102 (0, 0))] := ⟨_, rfl⟩
      have ls : Aside0 (∀ X, S X → HdOk w X [(W1.heap.size, Obj.cells #[.int .i64 rate, .slice A l.length c] 54 (0, 0)), (w.heap.size + 1 + 1, Obj.cells #[.int .i64 0, .int .i64 0, .int .i64 0, .slice none 0 0] 102 (0, 0)), (w.heap.size + 1, Obj.cells #[.int .u16 f, .int .i32 d, .int .u8 kd, .int .u8 e, .int .u8 la] 105 (0, 0)), (w.heap.size, Obj.cells #[.int .i64 nw, .int .i64 v2, .int .i64 rate, .slice A l.length c] 102 (0, 0))]) := ⟨fun X h => by rw [hSdef] at h; exact h⟩
      have lt : Aside0 (∀ X, HdOk w X [(W1.heap.size, Obj.cells #[.int .i64 rate, .slice A l.length c] 54 (0, 0)), (w.heap.size + 1 + 1, Obj.cells #[.int .i64 0, .int .i64 0, .int .i64 0, .slice none 0 0] 102 (0, 0)), (w.heap.size + 1, Obj.cells #[.int .u16 f, .int .i32 d, .int .u8 kd, .int .u8 e, .int .u8 la] 105 (0, 0)), (w.heap.size, Obj.cells #[.int .i64 nw, .int .i64 v2, .int .i64 rate, .slice A l.length c] 102 (0, 0))] → S X) := ⟨fun X h => by rw [hSdef]; exact h⟩
      have ok6_0 := Aside0.mk (ok6.out.step (below_drew (Below.refl _ _)))
      have hS := Aside0.mk (lt.out _ ok6_0.out.tl)
      clear hSdef
      refine wpIn_region_held S 21 hmix ?_
      refine wpAnyHI_take (i := 0) (v := .agg #[.int .i64 rate, .slice A l.length c]) (fun _ => trivial) rfl (by kernel_rfl) (fun _ _ _ h => h) (Or.inl ⟨by kernel_rfl, fun X hX => ?_⟩) (hS.out) ?_
      · have y0_0 : X.cell? ⟨W1.heap.size, 0, none⟩ = some (.int .i64 rate) := (blk_cell ((ls.out X hX).held 0 _ rfl) 0).trans rfl; have y0_1 : X.cell? ⟨W1.heap.size, 1, none⟩ = some (.slice A l.length c) := (blk_cell ((ls.out X hX).held 0 _ rfl) 1).trans rfl; go_simp
      refine wpAnyHI_take (i := 1) (v := .int .i64 (value / 1000000)) (fun _ => trivial) rfl (by kernel_rfl) (fun _ _ _ h => h) (Or.inl ⟨by kernel_rfl, fun X hX => ?_⟩) (hS.out) ?_
      · go_simp
      refine wpAnyHI_take (i := 2) (v := .int .i64 (v2 / 1000000)) (fun _ => trivial) rfl (by kernel_rfl) (fun _ _ _ h => h) (Or.inl ⟨by kernel_rfl, fun X hX => ?_⟩) (hS.out) ?_
      · go_simp
      refine wpAnyHI_take (i := 3) (v := .int .i64 at_) (fun _ => trivial) rfl (by kernel_rfl) (fun _ _ _ h => h) (Or.inl ⟨by kernel_rfl, fun X hX => ?_⟩) (hS.out) ?_
      · go_simp
      refine wpAnyHI_take (i := 4) (v := .pointer (some ⟨w.heap.size + 1, 4, none⟩)) (fun _ => trivial) rfl (by kernel_rfl) (fun _ _ _ h => h) (Or.inl ⟨by kernel_rfl, fun X hX => ?_⟩) (hS.out) ?_
      · go_simp
      refine wpAnyHI_take (i := 5) (v := .int .u8 la) (fun _ => trivial) rfl (by kernel_rfl) (fun _ _ _ h => h) (Or.inl ⟨by kernel_rfl, fun X hX => ?_⟩) (hS.out) ?_
      · have y2_4 : X.cell? ⟨w.heap.size + 1, 4, none⟩ = some (.int .u8 la) := (blk_cell ((ls.out X hX).held 2 _ rfl) 4).trans rfl; go_simp
      refine wpAnyHI_take (i := 6) (v := .int .i64 la) (fun _ => trivial) rfl (by kernel_rfl) (fun _ _ _ h => h) (Or.inl ⟨by kernel_rfl, fun X hX => ?_⟩) (hS.out) ?_
      · go_simp; first | done | exact goOn.w64 (by omega) (by omega)
      refine wpAnyHI_take (i := 7) (v := .int .i64 (at_ - la)) (fun _ => trivial) rfl (by kernel_rfl) (fun _ _ _ h => h) (Or.inl ⟨by kernel_rfl, fun X hX => ?_⟩) (hS.out) ?_
      · go_simp; first | done | exact goOn.w64 (by omega) (by omega)
      refine wpAnyHI_take (i := 8) (v := .int .i64 lo2) (fun _ => trivial) rfl (by kernel_rfl) (fun _ _ _ h => h) (Or.inl ⟨by kernel_rfl, fun X hX => ?_⟩) (hS.out) ?_
      · go_simp
      refine wpAnyHI_take (i := 9) (v := .int .i64 at_) (fun _ => trivial) rfl (by kernel_rfl) (fun _ _ _ h => h) (Or.inl ⟨by kernel_rfl, fun X hX => ?_⟩) (hS.out) ?_
      · go_simp
      refine wpAnyHI_take (i := 10) (v := .pointer (some ⟨w.heap.size + 1, 3, none⟩)) (fun _ => trivial) rfl (by kernel_rfl) (fun _ _ _ h => h) (Or.inl ⟨by kernel_rfl, fun X hX => ?_⟩) (hS.out) ?_
      · go_simp
      refine wpAnyHI_take (i := 11) (v := .int .u8 e) (fun _ => trivial) rfl (by kernel_rfl) (fun _ _ _ h => h) (Or.inl ⟨by kernel_rfl, fun X hX => ?_⟩) (hS.out) ?_
      · have y2_3 : X.cell? ⟨w.heap.size + 1, 3, none⟩ = some (.int .u8 e) := (blk_cell ((ls.out X hX).held 2 _ rfl) 3).trans rfl; go_simp
      refine wpAnyHI_take (i := 12) (v := .int .i64 e) (fun _ => trivial) rfl (by kernel_rfl) (fun _ _ _ h => h) (Or.inl ⟨by kernel_rfl, fun X hX => ?_⟩) (hS.out) ?_
      · go_simp; first | done | exact goOn.w64 (by omega) (by omega)
      refine wpAnyHI_take (i := 13) (v := .int .i64 (at_ + e)) (fun _ => trivial) rfl (by kernel_rfl) (fun _ _ _ h => h) (Or.inl ⟨by kernel_rfl, fun X hX => ?_⟩) (hS.out) ?_
      · go_simp; first | done | exact goOn.w64 (by omega) (by omega)
      refine wpAnyHI_one (i := 14) (fun _ => trivial) rfl (by kernel_rfl) (fun K' hK' => ?_)
      rw [if_pos (by kernel_rfl)]
      go_simp
      refine ⟨trivial, (callsIn_wide.2 (quietuslaw14_when.calls lo2 (at_ + e) lo2 (at_ + e) _ rfl)).mono ?_⟩
      rintro ee Y1 ⟨rfl, hb⟩
      dsimp only
      have oky1 := Aside0.mk (ok6_0.out.step hb)
      clear hb
      refine hK' _ _ (lt.out _ oky1.out.tl) ?_
      clear hK' K'
      refine wpAnyHI_one (i := 15) (fun _ => trivial) rfl (by kernel_rfl) (fun K' hK' => ?_)
      rw [if_pos (by kernel_rfl)]
      go_simp
      refine ⟨trivial, (callsIn_wide.2 (clock_Answer.calls k rate A c l (value / 1000000) (v2 / 1000000) lo2 (at_ + e) (v2 / 1000000) t2 t3 0 _ (Kd.C_below HR.out oky1.out.hb) HC.out HA.out)).mono ?_⟩
      rintro ee Y2 ⟨rfl, hb⟩
      dsimp only
      have oky2 := Aside0.mk (oky1.out.step hb)
      clear hb
      refine hK' _ _ (lt.out _ oky2.out.tl) ?_
      clear hK' K'
      refine wpAnyHI_take (i := 16) (v := .tuple #[.agg #[.int .i64 (v2 / 1000000), .int .i64 t2, .int .i64 t3], .int .i64 0]) (fun _ => trivial) rfl (by kernel_rfl) (fun _ _ _ h => h) (Or.inl ⟨by kernel_rfl, fun X hX => ?_⟩) (lt.out _ oky2.out.tl) ?_
      · go_simp
      refine wpAnyHI_take (i := 17) (v := .agg #[.int .i64 (v2 / 1000000), .int .i64 t2, .int .i64 t3]) (fun _ => trivial) rfl (by kernel_rfl) (fun _ _ _ h => h) (Or.inl ⟨by kernel_rfl, fun X hX => ?_⟩) (lt.out _ oky2.out.tl) ?_
      · go_simp
      refine wpAnyHI_take (i := 18) (v := .int .i64 0) (fun _ => trivial) rfl (by kernel_rfl) (fun _ _ _ h => h) (Or.inl ⟨by kernel_rfl, fun X hX => ?_⟩) (lt.out _ oky2.out.tl) ?_
      · go_simp
      have hz0 : Y2.cell? ⟨W5.heap.size, 0, none⟩ = some (.int .i64 (v2 / 1000000)) := (blk_cell (oky2.out.held 0 _ rfl) 0).trans rfl
      have hz1 : Y2.cell? ⟨W5.heap.size, 1, none⟩ = some (.int .i64 lo) := (blk_cell (oky2.out.held 0 _ rfl) 1).trans rfl
      have hz2 : Y2.cell? ⟨W5.heap.size, 2, none⟩ = some (.int .i64 hi) := (blk_cell (oky2.out.held 0 _ rfl) 2).trans rfl
      have hf0 : Y2.frozen? ⟨W5.heap.size, 0, none⟩ = false := blk_frozen (oky2.out.held 0 _ rfl) 0
      have hf1 : Y2.frozen? ⟨W5.heap.size, 1, none⟩ = false := blk_frozen (oky2.out.held 0 _ rfl) 1
      have hf2 : Y2.frozen? ⟨W5.heap.size, 2, none⟩ = false := blk_frozen (oky2.out.held 0 _ rfl) 2
      refine wpAnyHI_one (i := 19) (fun _ => trivial) rfl (by kernel_rfl) (fun K' hK' => ?_)
      rw [if_pos (by kernel_rfl)]
      go_simp
      clear hz0 hf0 hz1 hf1 hz2 hf2
      have p0 : HdOk w _ [(W5.heap.size, Obj.cells #[.int .i64 (v2 / 1000000), .int .i64 lo, .int .i64 hi] 58 (0, 0)), (W1.heap.size, Obj.cells #[.int .i64 rate, .slice A l.length c] 54 (0, 0)), (w.heap.size + 1 + 1, Obj.cells #[.int .i64 0, .int .i64 0, .int .i64 0, .slice none 0 0] 102 (0, 0)), (w.heap.size + 1, Obj.cells #[.int .u16 f, .int .i32 d, .int .u8 kd, .int .u8 e, .int .u8 la] 105 (0, 0)), (w.heap.size, Obj.cells #[.int .i64 nw, .int .i64 v2, .int .i64 rate, .slice A l.length c] 102 (0, 0))] := oky2.out.put (i := 0) rfl 0 (.int .i64 (v2 / 1000000))
      have p1 : HdOk w _ [(W5.heap.size, Obj.cells #[.int .i64 (v2 / 1000000), .int .i64 t2, .int .i64 hi] 58 (0, 0)), (W1.heap.size, Obj.cells #[.int .i64 rate, .slice A l.length c] 54 (0, 0)), (w.heap.size + 1 + 1, Obj.cells #[.int .i64 0, .int .i64 0, .int .i64 0, .slice none 0 0] 102 (0, 0)), (w.heap.size + 1, Obj.cells #[.int .u16 f, .int .i32 d, .int .u8 kd, .int .u8 e, .int .u8 la] 105 (0, 0)), (w.heap.size, Obj.cells #[.int .i64 nw, .int .i64 v2, .int .i64 rate, .slice A l.length c] 102 (0, 0))] := p0.put (i := 0) rfl 1 (.int .i64 t2)
      have p2 : HdOk w _ [(W5.heap.size, Obj.cells #[.int .i64 (v2 / 1000000), .int .i64 t2, .int .i64 t3] 58 (0, 0)), (W1.heap.size, Obj.cells #[.int .i64 rate, .slice A l.length c] 54 (0, 0)), (w.heap.size + 1 + 1, Obj.cells #[.int .i64 0, .int .i64 0, .int .i64 0, .slice none 0 0] 102 (0, 0)), (w.heap.size + 1, Obj.cells #[.int .u16 f, .int .i32 d, .int .u8 kd, .int .u8 e, .int .u8 la] 105 (0, 0)), (w.heap.size, Obj.cells #[.int .i64 nw, .int .i64 v2, .int .i64 rate, .slice A l.length c] 102 (0, 0))] := p1.put (i := 0) rfl 2 (.int .i64 t3)
      have oky3 := Aside0.mk p2
      refine hK' _ _ (lt.out _ oky3.out.tl) ?_
      clear hK' K'
      refine wpAnyHI_take (i := 20) (v := .int .i64 0) (fun _ => trivial) rfl (by kernel_rfl) (fun _ _ _ h => h) (Or.inl ⟨by kernel_rfl, fun X hX => ?_⟩) (lt.out _ oky3.out.tl) ?_
      · go_simp
      refine wpAnyHI_done (by kernel_rfl) ?_ _
      go_simp
      clear ls lt hS S
      have ok9 := oky3
      clear oky3 ok6_0 oky1 oky2
      generalize (((Y2.setCell ⟨W5.heap.size, 0, none⟩ (.int .i64 (v2 / 1000000))).setCell ⟨W5.heap.size, 1, none⟩ (.int .i64 t2)).setCell ⟨W5.heap.size, 2, none⟩ (.int .i64 t3)) = W9 at ok9 ⊢
      have hgt0 : W5.heap.size < W9.heap.size := blk_lt (ok9.out.held 0 _ rfl)
      have hz0_0 : W9.cell? ⟨W5.heap.size, 0, none⟩ = some (.int .i64 (v2 / 1000000)) := (blk_cell (ok9.out.held 0 _ rfl) 0).trans rfl
      have hz0_1 : W9.cell? ⟨W5.heap.size, 1, none⟩ = some (.int .i64 t2) := (blk_cell (ok9.out.held 0 _ rfl) 1).trans rfl
      have hz0_2 : W9.cell? ⟨W5.heap.size, 2, none⟩ = some (.int .i64 t3) := (blk_cell (ok9.out.held 0 _ rfl) 2).trans rfl
      have hgt1 : W1.heap.size < W9.heap.size := blk_lt (ok9.out.held 1 _ rfl)
      have hz1_0 : W9.cell? ⟨W1.heap.size, 0, none⟩ = some (.int .i64 rate) := (blk_cell (ok9.out.held 1 _ rfl) 0).trans rfl
      have hz1_1 : W9.cell? ⟨W1.heap.size, 1, none⟩ = some (.slice A l.length c) := (blk_cell (ok9.out.held 1 _ rfl) 1).trans rfl
      have hgt2 : w.heap.size + 1 + 1 < W9.heap.size := blk_lt (ok9.out.held 2 _ rfl)
      have hz2_0 : W9.cell? ⟨w.heap.size + 1 + 1, 0, none⟩ = some (.int .i64 0) := (blk_cell (ok9.out.held 2 _ rfl) 0).trans rfl
      have hz2_1 : W9.cell? ⟨w.heap.size + 1 + 1, 1, none⟩ = some (.int .i64 0) := (blk_cell (ok9.out.held 2 _ rfl) 1).trans rfl
      have hz2_2 : W9.cell? ⟨w.heap.size + 1 + 1, 2, none⟩ = some (.int .i64 0) := (blk_cell (ok9.out.held 2 _ rfl) 2).trans rfl
      have hz2_3 : W9.cell? ⟨w.heap.size + 1 + 1, 3, none⟩ = some (.slice none 0 0) := (blk_cell (ok9.out.held 2 _ rfl) 3).trans rfl
      have hgt3 : w.heap.size + 1 < W9.heap.size := blk_lt (ok9.out.held 3 _ rfl)
      have hz3_0 : W9.cell? ⟨w.heap.size + 1, 0, none⟩ = some (.int .u16 f) := (blk_cell (ok9.out.held 3 _ rfl) 0).trans rfl
      have hz3_1 : W9.cell? ⟨w.heap.size + 1, 1, none⟩ = some (.int .i32 d) := (blk_cell (ok9.out.held 3 _ rfl) 1).trans rfl
      have hz3_2 : W9.cell? ⟨w.heap.size + 1, 2, none⟩ = some (.int .u8 kd) := (blk_cell (ok9.out.held 3 _ rfl) 2).trans rfl
      have hz3_3 : W9.cell? ⟨w.heap.size + 1, 3, none⟩ = some (.int .u8 e) := (blk_cell (ok9.out.held 3 _ rfl) 3).trans rfl
      have hz3_4 : W9.cell? ⟨w.heap.size + 1, 4, none⟩ = some (.int .u8 la) := (blk_cell (ok9.out.held 3 _ rfl) 4).trans rfl
      have hgt4 : w.heap.size < W9.heap.size := blk_lt (ok9.out.held 4 _ rfl)
      have hz4_0 : W9.cell? ⟨w.heap.size, 0, none⟩ = some (.int .i64 nw) := (blk_cell (ok9.out.held 4 _ rfl) 0).trans rfl
      have hz4_1 : W9.cell? ⟨w.heap.size, 1, none⟩ = some (.int .i64 v2) := (blk_cell (ok9.out.held 4 _ rfl) 1).trans rfl
      have hz4_2 : W9.cell? ⟨w.heap.size, 2, none⟩ = some (.int .i64 rate) := (blk_cell (ok9.out.held 4 _ rfl) 2).trans rfl
      have hz4_3 : W9.cell? ⟨w.heap.size, 3, none⟩ = some (.slice A l.length c) := (blk_cell (ok9.out.held 4 _ rfl) 3).trans rfl
      have hd1 : decide (nw < t2) = false := decide_eq_false (by omega)
      have hd2 : decide (t2 > nw) = false := decide_eq_false (by omega)
      have hd3 : decide (t3 < nw) = false := decide_eq_false (by omega)
      go_wp2_with fail
      refine (clock_Sync.calls k rate A c l (v2 / 1000000) (t2) (t3) s1 s2 s3 _ (Kd.C_below HR.out ok9.out.hb) HC.out HS.out).mono ?_
      have HS6 := Aside0.mk ok9.out.hb.size
      rintro ee W7 ⟨v7, rfl, hQ7, hb⟩
      have ok7 := Aside0.mk (ok9.out.step hb)
      clear hb
      obtain ⟨A7, c7, rfl, hlc7⟩ := Kd.Q_slice hQ7
      have HQ7 := Aside0.mk hQ7
      have HL7 := Aside0.mk hlc7
      clear hQ7 hlc7
      clear hgt0 hgt1 hgt2 hgt3 hgt4 hz0_0 hz0_1 hz0_2 hz1_0 hz1_1 hz2_0 hz2_1 hz2_2 hz2_3 hz3_0 hz3_1 hz3_2 hz3_3 hz3_4 hz4_0 hz4_1 hz4_2 hz4_3
      have hgt0 : W5.heap.size < W7.heap.size := blk_lt (ok7.out.held 0 _ rfl)
      have hz0_0 : W7.cell? ⟨W5.heap.size, 0, none⟩ = some (.int .i64 (v2 / 1000000)) := (blk_cell (ok7.out.held 0 _ rfl) 0).trans rfl
      have hz0_1 : W7.cell? ⟨W5.heap.size, 1, none⟩ = some (.int .i64 t2) := (blk_cell (ok7.out.held 0 _ rfl) 1).trans rfl
      have hz0_2 : W7.cell? ⟨W5.heap.size, 2, none⟩ = some (.int .i64 t3) := (blk_cell (ok7.out.held 0 _ rfl) 2).trans rfl
      have hgt1 : W1.heap.size < W7.heap.size := blk_lt (ok7.out.held 1 _ rfl)
      have hz1_0 : W7.cell? ⟨W1.heap.size, 0, none⟩ = some (.int .i64 rate) := (blk_cell (ok7.out.held 1 _ rfl) 0).trans rfl
      have hz1_1 : W7.cell? ⟨W1.heap.size, 1, none⟩ = some (.slice A l.length c) := (blk_cell (ok7.out.held 1 _ rfl) 1).trans rfl
      have hgt2 : w.heap.size + 1 + 1 < W7.heap.size := blk_lt (ok7.out.held 2 _ rfl)
      have hz2_0 : W7.cell? ⟨w.heap.size + 1 + 1, 0, none⟩ = some (.int .i64 0) := (blk_cell (ok7.out.held 2 _ rfl) 0).trans rfl
      have hz2_1 : W7.cell? ⟨w.heap.size + 1 + 1, 1, none⟩ = some (.int .i64 0) := (blk_cell (ok7.out.held 2 _ rfl) 1).trans rfl
      have hz2_2 : W7.cell? ⟨w.heap.size + 1 + 1, 2, none⟩ = some (.int .i64 0) := (blk_cell (ok7.out.held 2 _ rfl) 2).trans rfl
      have hz2_3 : W7.cell? ⟨w.heap.size + 1 + 1, 3, none⟩ = some (.slice none 0 0) := (blk_cell (ok7.out.held 2 _ rfl) 3).trans rfl
      have hf2_0 : W7.frozen? ⟨w.heap.size + 1 + 1, 0, none⟩ = false := blk_frozen (ok7.out.held 2 _ rfl) 0
      have hf2_1 : W7.frozen? ⟨w.heap.size + 1 + 1, 1, none⟩ = false := blk_frozen (ok7.out.held 2 _ rfl) 1
      have hf2_2 : W7.frozen? ⟨w.heap.size + 1 + 1, 2, none⟩ = false := blk_frozen (ok7.out.held 2 _ rfl) 2
      have hf2_3 : W7.frozen? ⟨w.heap.size + 1 + 1, 3, none⟩ = false := blk_frozen (ok7.out.held 2 _ rfl) 3
      have hgt3 : w.heap.size + 1 < W7.heap.size := blk_lt (ok7.out.held 3 _ rfl)
      have hz3_0 : W7.cell? ⟨w.heap.size + 1, 0, none⟩ = some (.int .u16 f) := (blk_cell (ok7.out.held 3 _ rfl) 0).trans rfl
      have hz3_1 : W7.cell? ⟨w.heap.size + 1, 1, none⟩ = some (.int .i32 d) := (blk_cell (ok7.out.held 3 _ rfl) 1).trans rfl
      have hz3_2 : W7.cell? ⟨w.heap.size + 1, 2, none⟩ = some (.int .u8 kd) := (blk_cell (ok7.out.held 3 _ rfl) 2).trans rfl
      have hz3_3 : W7.cell? ⟨w.heap.size + 1, 3, none⟩ = some (.int .u8 e) := (blk_cell (ok7.out.held 3 _ rfl) 3).trans rfl
      have hz3_4 : W7.cell? ⟨w.heap.size + 1, 4, none⟩ = some (.int .u8 la) := (blk_cell (ok7.out.held 3 _ rfl) 4).trans rfl
      have hgt4 : w.heap.size < W7.heap.size := blk_lt (ok7.out.held 4 _ rfl)
      have hz4_0 : W7.cell? ⟨w.heap.size, 0, none⟩ = some (.int .i64 nw) := (blk_cell (ok7.out.held 4 _ rfl) 0).trans rfl
      have hz4_1 : W7.cell? ⟨w.heap.size, 1, none⟩ = some (.int .i64 v2) := (blk_cell (ok7.out.held 4 _ rfl) 1).trans rfl
      have hz4_2 : W7.cell? ⟨w.heap.size, 2, none⟩ = some (.int .i64 rate) := (blk_cell (ok7.out.held 4 _ rfl) 2).trans rfl
      have hz4_3 : W7.cell? ⟨w.heap.size, 3, none⟩ = some (.slice A l.length c) := (blk_cell (ok7.out.held 4 _ rfl) 3).trans rfl
      have hf4_0 : W7.frozen? ⟨w.heap.size, 0, none⟩ = false := blk_frozen (ok7.out.held 4 _ rfl) 0
      have hf4_1 : W7.frozen? ⟨w.heap.size, 1, none⟩ = false := blk_frozen (ok7.out.held 4 _ rfl) 1
      have hf4_2 : W7.frozen? ⟨w.heap.size, 2, none⟩ = false := blk_frozen (ok7.out.held 4 _ rfl) 2
      have hf4_3 : W7.frozen? ⟨w.heap.size, 3, none⟩ = false := blk_frozen (ok7.out.held 4 _ rfl) 3
      by_cases c15 : s3 = 15
      · have c15b : ((s3 : Int) == 15) = true := beq_iff_eq.mpr c15
        have h0 := H1.out
        rw [if_pos c15] at h0
        by_cases c16 : 0 < l.length ∧ v2 / 1000000 ≤ (rd_T58 l ((l.length : Int) - 1)).f0
        rotate_left
        · rw [if_neg c16] at h0; cases h0
        rw [if_pos c16] at h0
        simp only [Option.some.injEq, Prod.mk.injEq] at h0
        obtain ⟨rfl, rfl, rfl, rfl, rfl⟩ := h0
        obtain ⟨ad, hA, -⟩ := at_T58 HR.out ((l.length : Int) - 1) (by omega) (by omega)
        subst hA
        obtain ⟨J, hJ⟩ : ∃ J, (l.length : Int) - 1 = J := ⟨_, rfl⟩
        have hJb : 0 ≤ J ∧ J < l.length ∧ J ≤ 1000 := by omega
        rw [hJ] at c16
        go_upto_region 18 with (fail)
        clear hgt0 hgt1 hgt2 hgt3 hgt4 hz0_0 hz0_1 hz0_2 hz1_0 hz1_1 hz2_0 hz2_1 hz2_2 hz2_3 hz3_0 hz3_1 hz3_2 hz3_3 hz3_4 hz4_0 hz4_1 hz4_2 hz4_3 hf2_0 hf2_1 hf2_2 hf2_3 hf4_0 hf4_1 hf4_2 hf4_3
        have ok8 : Aside0 (HdOk w _ [(_, Obj.cells #[.int .i64 s1, .slice A7 s2.length c7] 54 (0, 0)), (W5.heap.size, Obj.cells #[.int .i64 (v2 / 1000000), .int .i64 t2, .int .i64 t3] 58 (0, 0)), (W1.heap.size, Obj.cells #[.int .i64 rate, .slice (some ad) l.length c] 54 (0, 0)), (w.heap.size + 1 + 1, Obj.cells #[.int .i64 0, .int .i64 0, .int .i64 0, .slice none 0 0] 102 (0, 0)), (w.heap.size + 1, Obj.cells #[.int .u16 f, .int .i32 d, .int .u8 kd, .int .u8 e, .int .u8 la] 105 (0, 0)), (w.heap.size, Obj.cells #[.int .i64 nw, .int .i64 v2, .int .i64 rate, .slice (some ad) l.length c] 102 (0, 0))]) := ⟨ok7.out.add (Obj.cells #[.int .i64 s1, .slice A7 s2.length c7] 54 (0, 0))⟩
        generalize W7.alloc (Obj.cells #[.int .i64 s1, .slice A7 s2.length c7] 54 (0, 0)) = W8 at ok8 ⊢
        refine (wpIn_wide (n := 3)).1 ?_
        obtain ⟨S, hSdef⟩ : ∃ S : World → Prop, S = fun X => Below w.heap.size w X ∧ X.heap[w.heap.size]? = some (Obj.cells #[.int .i64 nw, .int .i64 v2, .int .i64 rate, .slice (some ad) l.length c] 102 (0, 0)) ∧ X.heap[W1.heap.size]? = some (Obj.cells #[.int .i64 rate, .slice (some ad) l.length c] 54 (0, 0)) := ⟨_, rfl⟩
        have ls : Aside0 (∀ X, S X → Below w.heap.size w X ∧ X.heap[w.heap.size]? = some (Obj.cells #[.int .i64 nw, .int .i64 v2, .int .i64 rate, .slice (some ad) l.length c] 102 (0, 0)) ∧ X.heap[W1.heap.size]? = some (Obj.cells #[.int .i64 rate, .slice (some ad) l.length c] 54 (0, 0))) := ⟨fun X h => by rw [hSdef] at h; exact h⟩
        have lt : Aside0 (∀ X (l0 : List (Nat × Obj)), HdOk w X l0 → l0[5]? = some (w.heap.size, Obj.cells #[.int .i64 nw, .int .i64 v2, .int .i64 rate, .slice (some ad) l.length c] 102 (0, 0)) → l0[2]? = some (W1.heap.size, Obj.cells #[.int .i64 rate, .slice (some ad) l.length c] 54 (0, 0)) → S X) := ⟨fun X l0 h h5 h2 => by rw [hSdef]; exact ⟨h.hb, h.held _ _ h5, h.held _ _ h2⟩⟩
        have ok8_0 := Aside0.mk (ok8.out.step (below_drew (Below.refl _ _)))
        have hS := Aside0.mk (lt.out _ _ ok8_0.out rfl rfl)
        clear hSdef
        refine wpIn_region_held S 20 hmix ?_
        refine wpAnyHI_take (i := 0) (v := .agg #[.int .i64 nw, .int .i64 v2, .int .i64 rate, .slice (some ad) l.length c]) (fun _ => trivial) rfl (by kernel_rfl) (fun _ _ _ h => h) (Or.inl ⟨by kernel_rfl, fun X hX => ?_⟩) (hS.out) ?_
        · have ym_0 : X.cell? ⟨w.heap.size, 0, none⟩ = some (.int .i64 nw) := (blk_cell (ls.out X hX).2.1 0).trans rfl; have ym_1 : X.cell? ⟨w.heap.size, 1, none⟩ = some (.int .i64 v2) := (blk_cell (ls.out X hX).2.1 1).trans rfl; have ym_2 : X.cell? ⟨w.heap.size, 2, none⟩ = some (.int .i64 rate) := (blk_cell (ls.out X hX).2.1 2).trans rfl; have ym_3 : X.cell? ⟨w.heap.size, 3, none⟩ = some (.slice (some ad) l.length c) := (blk_cell (ls.out X hX).2.1 3).trans rfl; go_simp
        refine wpAnyHI_take (i := 1) (v := .pointer (some ⟨W1.heap.size, 1, none⟩)) (fun _ => trivial) rfl (by kernel_rfl) (fun _ _ _ h => h) (Or.inl ⟨by kernel_rfl, fun X hX => ?_⟩) (hS.out) ?_
        · go_simp
        refine wpAnyHI_take (i := 2) (v := .slice (some ad) l.length c) (fun _ => trivial) rfl (by kernel_rfl) (fun _ _ _ h => h) (Or.inl ⟨by kernel_rfl, fun X hX => ?_⟩) (hS.out) ?_
        · have yc_1 : X.cell? ⟨W1.heap.size, 1, none⟩ = some (.slice (some ad) l.length c) := (blk_cell (ls.out X hX).2.2 1).trans rfl; go_simp
        refine wpAnyHI_take (i := 3) (v := .int .i64 l.length) (fun _ => trivial) rfl (by kernel_rfl) (fun _ _ _ h => h) (Or.inl ⟨by kernel_rfl, fun X hX => ?_⟩) (hS.out) ?_
        · go_simp
        refine wpAnyHI_take (i := 4) (v := .bool true) (fun _ => trivial) rfl (by kernel_rfl) (fun _ _ _ h => h) (Or.inl ⟨by kernel_rfl, fun X hX => ?_⟩) (hS.out) ?_
        · have hb1 : decide (0 < l.length) = true := decide_eq_true c16.1; have hb2 : decide ((0 : Int) < (l.length : Int)) = true := decide_eq_true (by omega); go_simp
        refine wpAnyHI_take (i := 5) (v := .bool true) (fun _ => trivial) rfl (by kernel_rfl) (fun _ _ _ h => h) (Or.inl ⟨by kernel_rfl, fun X hX => ?_⟩) (hS.out) ?_
        · go_simp
        refine wpAnyHI_take (i := 6) (v := .pointer (some ⟨W1.heap.size, 1, none⟩)) (fun _ => trivial) rfl (by kernel_rfl) (fun _ _ _ h => h) (Or.inl ⟨by kernel_rfl, fun X hX => ?_⟩) (hS.out) ?_
        · go_simp
        refine wpAnyHI_take (i := 7) (v := .slice (some ad) l.length c) (fun _ => trivial) rfl (by kernel_rfl) (fun _ _ _ h => h) (Or.inl ⟨by kernel_rfl, fun X hX => ?_⟩) (hS.out) ?_
        · have yc_1 : X.cell? ⟨W1.heap.size, 1, none⟩ = some (.slice (some ad) l.length c) := (blk_cell (ls.out X hX).2.2 1).trans rfl; go_simp
        refine wpAnyHI_take (i := 8) (v := .pointer (some ⟨W1.heap.size, 1, none⟩)) (fun _ => trivial) rfl (by kernel_rfl) (fun _ _ _ h => h) (Or.inl ⟨by kernel_rfl, fun X hX => ?_⟩) (hS.out) ?_
        · go_simp
        refine wpAnyHI_take (i := 9) (v := .slice (some ad) l.length c) (fun _ => trivial) rfl (by kernel_rfl) (fun _ _ _ h => h) (Or.inl ⟨by kernel_rfl, fun X hX => ?_⟩) (hS.out) ?_
        · have yc_1 : X.cell? ⟨W1.heap.size, 1, none⟩ = some (.slice (some ad) l.length c) := (blk_cell (ls.out X hX).2.2 1).trans rfl; go_simp
        refine wpAnyHI_take (i := 10) (v := .int .i64 l.length) (fun _ => trivial) rfl (by kernel_rfl) (fun _ _ _ h => h) (Or.inl ⟨by kernel_rfl, fun X hX => ?_⟩) (hS.out) ?_
        · go_simp
        refine wpAnyHI_take (i := 11) (v := .int .i64 J) (fun _ => trivial) rfl (by kernel_rfl) (fun _ _ _ h => h) (Or.inl ⟨by kernel_rfl, fun X hX => ?_⟩) (hS.out) ?_
        · go_simp; first | done | exact goOn.w64 (by omega) (by omega) | (rw [hJ]; exact goOn.w64 (by omega) (by omega))
        refine wpAnyHI_take (i := 12) (v := .pointer (some (ad.add (J.toNat * 3)))) (fun _ => trivial) rfl (by kernel_rfl) (fun _ _ _ h => h) (Or.inl ⟨by kernel_rfl, fun X hX => ?_⟩) (hS.out) ?_
        · go_simp
        refine wpAnyHI_take (i := 13) (v := .pointer (some (ad.add (J.toNat * 3)))) (fun _ => trivial) rfl (by kernel_rfl) (fun _ _ _ h => h) (Or.inl ⟨by kernel_rfl, fun X hX => ?_⟩) (hS.out) ?_
        · go_simp
        refine wpAnyHI_take (i := 14) (v := .int .i64 ((rd_T58 l J).f0)) (fun _ => trivial) rfl (by kernel_rfl) (fun _ _ _ h => h) (Or.inl ⟨by kernel_rfl, fun X hX => ?_⟩) (hS.out) ?_
        · obtain ⟨ad', hA', q0, -, -⟩ := at_T58 (Kd.C_below HR.out (ls.out X hX).1) J hJb.1 hJb.2.1; obtain rfl := Option.some.inj hA'; go_simp
        refine wpAnyHI_take (i := 15) (v := .int .i64 (v2 / 1000000)) (fun _ => trivial) rfl (by kernel_rfl) (fun _ _ _ h => h) (Or.inl ⟨by kernel_rfl, fun X hX => ?_⟩) (hS.out) ?_
        · go_simp
        refine wpAnyHI_take (i := 16) (v := .bool true) (fun _ => trivial) rfl (by kernel_rfl) (fun _ _ _ h => h) (Or.inl ⟨by kernel_rfl, fun X hX => ?_⟩) (hS.out) ?_
        · have hb3 : decide (v2 / 1000000 ≤ (rd_T58 l J).f0) = true := decide_eq_true c16.2; have hb4 : decide ((rd_T58 l J).f0 ≥ v2 / 1000000) = true := decide_eq_true c16.2; go_simp
        refine wpAnyHI_take (i := 17) (v := .bool true) (fun _ => trivial) rfl (by kernel_rfl) (fun _ _ _ h => h) (Or.inl ⟨by kernel_rfl, fun X hX => ?_⟩) (hS.out) ?_
        · go_simp
        have hz0 : W8.cell? ⟨w.heap.size + 1 + 1, 0, none⟩ = some (.int .i64 0) := (blk_cell (ok8.out.held 3 _ rfl) 0).trans rfl
        have hz1 : W8.cell? ⟨w.heap.size + 1 + 1, 1, none⟩ = some (.int .i64 0) := (blk_cell (ok8.out.held 3 _ rfl) 1).trans rfl
        have hz2 : W8.cell? ⟨w.heap.size + 1 + 1, 2, none⟩ = some (.int .i64 0) := (blk_cell (ok8.out.held 3 _ rfl) 2).trans rfl
        have hz3 : W8.cell? ⟨w.heap.size + 1 + 1, 3, none⟩ = some (.slice none 0 0) := (blk_cell (ok8.out.held 3 _ rfl) 3).trans rfl
        have hf0 : W8.frozen? ⟨w.heap.size + 1 + 1, 0, none⟩ = false := blk_frozen (ok8.out.held 3 _ rfl) 0
        have hf1 : W8.frozen? ⟨w.heap.size + 1 + 1, 1, none⟩ = false := blk_frozen (ok8.out.held 3 _ rfl) 1
        have hf2 : W8.frozen? ⟨w.heap.size + 1 + 1, 2, none⟩ = false := blk_frozen (ok8.out.held 3 _ rfl) 2
        have hf3 : W8.frozen? ⟨w.heap.size + 1 + 1, 3, none⟩ = false := blk_frozen (ok8.out.held 3 _ rfl) 3
        refine wpAnyHI_one (i := 18) (fun _ => trivial) rfl (by kernel_rfl) (fun K' hK' => ?_)
        rw [if_pos (by kernel_rfl)]
        go_simp
        clear hz0 hf0 hz1 hf1 hz2 hf2 hz3 hf3
        have p0 : HdOk w _ [(W7.heap.size, Obj.cells #[.int .i64 s1, .slice A7 s2.length c7] 54 (0, 0)), (W5.heap.size, Obj.cells #[.int .i64 (v2 / 1000000), .int .i64 t2, .int .i64 t3] 58 (0, 0)), (W1.heap.size, Obj.cells #[.int .i64 rate, .slice (some ad) l.length c] 54 (0, 0)), (w.heap.size + 1 + 1, Obj.cells #[.int .i64 nw, .int .i64 0, .int .i64 0, .slice none 0 0] 102 (0, 0)), (w.heap.size + 1, Obj.cells #[.int .u16 f, .int .i32 d, .int .u8 kd, .int .u8 e, .int .u8 la] 105 (0, 0)), (w.heap.size, Obj.cells #[.int .i64 nw, .int .i64 v2, .int .i64 rate, .slice (some ad) l.length c] 102 (0, 0))] := ok8.out.put (i := 3) rfl 0 (.int .i64 nw)
        have p1 : HdOk w _ [(W7.heap.size, Obj.cells #[.int .i64 s1, .slice A7 s2.length c7] 54 (0, 0)), (W5.heap.size, Obj.cells #[.int .i64 (v2 / 1000000), .int .i64 t2, .int .i64 t3] 58 (0, 0)), (W1.heap.size, Obj.cells #[.int .i64 rate, .slice (some ad) l.length c] 54 (0, 0)), (w.heap.size + 1 + 1, Obj.cells #[.int .i64 nw, .int .i64 v2, .int .i64 0, .slice none 0 0] 102 (0, 0)), (w.heap.size + 1, Obj.cells #[.int .u16 f, .int .i32 d, .int .u8 kd, .int .u8 e, .int .u8 la] 105 (0, 0)), (w.heap.size, Obj.cells #[.int .i64 nw, .int .i64 v2, .int .i64 rate, .slice (some ad) l.length c] 102 (0, 0))] := p0.put (i := 3) rfl 1 (.int .i64 v2)
        have p2 : HdOk w _ [(W7.heap.size, Obj.cells #[.int .i64 s1, .slice A7 s2.length c7] 54 (0, 0)), (W5.heap.size, Obj.cells #[.int .i64 (v2 / 1000000), .int .i64 t2, .int .i64 t3] 58 (0, 0)), (W1.heap.size, Obj.cells #[.int .i64 rate, .slice (some ad) l.length c] 54 (0, 0)), (w.heap.size + 1 + 1, Obj.cells #[.int .i64 nw, .int .i64 v2, .int .i64 rate, .slice none 0 0] 102 (0, 0)), (w.heap.size + 1, Obj.cells #[.int .u16 f, .int .i32 d, .int .u8 kd, .int .u8 e, .int .u8 la] 105 (0, 0)), (w.heap.size, Obj.cells #[.int .i64 nw, .int .i64 v2, .int .i64 rate, .slice (some ad) l.length c] 102 (0, 0))] := p1.put (i := 3) rfl 2 (.int .i64 rate)
        have p3 : HdOk w _ [(W7.heap.size, Obj.cells #[.int .i64 s1, .slice A7 s2.length c7] 54 (0, 0)), (W5.heap.size, Obj.cells #[.int .i64 (v2 / 1000000), .int .i64 t2, .int .i64 t3] 58 (0, 0)), (W1.heap.size, Obj.cells #[.int .i64 rate, .slice (some ad) l.length c] 54 (0, 0)), (w.heap.size + 1 + 1, Obj.cells #[.int .i64 nw, .int .i64 v2, .int .i64 rate, .slice (some ad) l.length c] 102 (0, 0)), (w.heap.size + 1, Obj.cells #[.int .u16 f, .int .i32 d, .int .u8 kd, .int .u8 e, .int .u8 la] 105 (0, 0)), (w.heap.size, Obj.cells #[.int .i64 nw, .int .i64 v2, .int .i64 rate, .slice (some ad) l.length c] 102 (0, 0))] := p2.put (i := 3) rfl 3 (.slice (some ad) l.length c)
        have okz := Aside0.mk (p3.step (below_drew (Below.refl _ _)))
        refine hK' _ _ (lt.out _ _ okz.out rfl rfl) ?_
        clear hK' K'
        refine wpAnyHI_take (i := 19) (v := .bool true) (fun _ => trivial) rfl (by kernel_rfl) (fun _ _ _ h => h) (Or.inl ⟨by kernel_rfl, fun X hX => ?_⟩) (lt.out _ _ okz.out rfl rfl) ?_
        · go_simp
        refine wpAnyHI_done (by kernel_rfl) ?_ _
        go_simp
        clear ls lt hS S
        go_wp2_with fail
        have okf : HdOk w _ [(W7.heap.size, Obj.cells #[.int .i64 s1, .slice A7 s2.length c7] 54 (0, 0)), (W5.heap.size, Obj.cells #[.int .i64 (v2 / 1000000), .int .i64 t2, .int .i64 t3] 58 (0, 0)), (W1.heap.size, Obj.cells #[.int .i64 rate, .slice (some ad) l.length c] 54 (0, 0)), (w.heap.size + 1 + 1, Obj.cells #[.int .i64 nw, .int .i64 v2, .int .i64 rate, .slice (some ad) l.length c] 102 (0, 0)), (w.heap.size + 1, Obj.cells #[.int .u16 f, .int .i32 d, .int .u8 kd, .int .u8 e, .int .u8 la] 105 (0, 0)), (w.heap.size, Obj.cells #[.int .i64 nw, .int .i64 v2, .int .i64 rate, .slice (some ad) l.length c] 102 (0, 0))] := okz.out
        have hf : _ = some (Obj.cells #[.int .i64 nw, .int .i64 v2, .int .i64 rate, .slice (some ad) l.length c] 102 (0, 0)) := okf.held 3 (w.heap.size + 1 + 1, Obj.cells #[.int .i64 nw, .int .i64 v2, .int .i64 rate, .slice (some ad) l.length c] 102 (0, 0)) rfl
        refine bodyPost_ret (results_ct rfl _ _ (w.heap.size + 1 + 1) 102 #[.int .i64 nw, .int .i64 v2, .int .i64 rate, .slice (some ad) l.length c] (0, 0) _ rfl hf Try.underlying102 rfl (by kernel_rfl)) rfl ?_
        exact ⟨_, _, rfl, Kd.Q_below HQ.out okf.hb, HC.out, okf.hb⟩
      · have c15b : ((s3 : Int) == 15) = false := beq_eq_false_iff_ne.mpr c15
        go_wp2_with fail
        have h0 := H1.out
        rw [if_neg c15] at h0
        by_cases c3 : s3 = 0
        rotate_left
        · rw [if_neg c3] at h0; cases h0
        rw [if_pos c3] at h0
        simp only [Option.some.injEq, Prod.mk.injEq] at h0
        obtain ⟨rfl, rfl, rfl, rfl, rfl⟩ := h0
        subst c3
        have q0 := Kd.Q_set HQ7.out (ok7.out.held 4 (w.heap.size, Obj.cells #[.int .i64 nw, .int .i64 v2, .int .i64 rate, .slice A l.length c] 102 (0, 0)) rfl) (by decide) 2 (.int .i64 s1)
        have p0 : HdOk w _ [(W5.heap.size, Obj.cells #[.int .i64 (v2 / 1000000), .int .i64 t2, .int .i64 t3] 58 (0, 0)), (W1.heap.size, Obj.cells #[.int .i64 rate, .slice A l.length c] 54 (0, 0)), (w.heap.size + 1 + 1, Obj.cells #[.int .i64 0, .int .i64 0, .int .i64 0, .slice none 0 0] 102 (0, 0)), (w.heap.size + 1, Obj.cells #[.int .u16 f, .int .i32 d, .int .u8 kd, .int .u8 e, .int .u8 la] 105 (0, 0)), (w.heap.size, Obj.cells #[.int .i64 nw, .int .i64 v2, .int .i64 s1, .slice A l.length c] 102 (0, 0))] := ok7.out.put (i := 4) rfl 2 (.int .i64 s1)
        have q1 := Kd.Q_set q0 (p0.held 4 (w.heap.size, Obj.cells #[.int .i64 nw, .int .i64 v2, .int .i64 s1, .slice A l.length c] 102 (0, 0)) rfl) (by decide) 3 (.slice A7 s2.length c7)
        have p1 : HdOk w _ [(W5.heap.size, Obj.cells #[.int .i64 (v2 / 1000000), .int .i64 t2, .int .i64 t3] 58 (0, 0)), (W1.heap.size, Obj.cells #[.int .i64 rate, .slice A l.length c] 54 (0, 0)), (w.heap.size + 1 + 1, Obj.cells #[.int .i64 0, .int .i64 0, .int .i64 0, .slice none 0 0] 102 (0, 0)), (w.heap.size + 1, Obj.cells #[.int .u16 f, .int .i32 d, .int .u8 kd, .int .u8 e, .int .u8 la] 105 (0, 0)), (w.heap.size, Obj.cells #[.int .i64 nw, .int .i64 v2, .int .i64 s1, .slice A7 s2.length c7] 102 (0, 0))] := p0.put (i := 4) rfl 3 (.slice A7 s2.length c7)
        have q2 := Kd.Q_set q1 (p1.held 2 (w.heap.size + 1 + 1, Obj.cells #[.int .i64 0, .int .i64 0, .int .i64 0, .slice none 0 0] 102 (0, 0)) rfl) (by decide) 0 (.int .i64 nw)
        have p2 : HdOk w _ [(W5.heap.size, Obj.cells #[.int .i64 (v2 / 1000000), .int .i64 t2, .int .i64 t3] 58 (0, 0)), (W1.heap.size, Obj.cells #[.int .i64 rate, .slice A l.length c] 54 (0, 0)), (w.heap.size + 1 + 1, Obj.cells #[.int .i64 nw, .int .i64 0, .int .i64 0, .slice none 0 0] 102 (0, 0)), (w.heap.size + 1, Obj.cells #[.int .u16 f, .int .i32 d, .int .u8 kd, .int .u8 e, .int .u8 la] 105 (0, 0)), (w.heap.size, Obj.cells #[.int .i64 nw, .int .i64 v2, .int .i64 s1, .slice A7 s2.length c7] 102 (0, 0))] := p1.put (i := 2) rfl 0 (.int .i64 nw)
        have q3 := Kd.Q_set q2 (p2.held 2 (w.heap.size + 1 + 1, Obj.cells #[.int .i64 nw, .int .i64 0, .int .i64 0, .slice none 0 0] 102 (0, 0)) rfl) (by decide) 1 (.int .i64 v2)
        have p3 : HdOk w _ [(W5.heap.size, Obj.cells #[.int .i64 (v2 / 1000000), .int .i64 t2, .int .i64 t3] 58 (0, 0)), (W1.heap.size, Obj.cells #[.int .i64 rate, .slice A l.length c] 54 (0, 0)), (w.heap.size + 1 + 1, Obj.cells #[.int .i64 nw, .int .i64 v2, .int .i64 0, .slice none 0 0] 102 (0, 0)), (w.heap.size + 1, Obj.cells #[.int .u16 f, .int .i32 d, .int .u8 kd, .int .u8 e, .int .u8 la] 105 (0, 0)), (w.heap.size, Obj.cells #[.int .i64 nw, .int .i64 v2, .int .i64 s1, .slice A7 s2.length c7] 102 (0, 0))] := p2.put (i := 2) rfl 1 (.int .i64 v2)
        have q4 := Kd.Q_set q3 (p3.held 2 (w.heap.size + 1 + 1, Obj.cells #[.int .i64 nw, .int .i64 v2, .int .i64 0, .slice none 0 0] 102 (0, 0)) rfl) (by decide) 2 (.int .i64 s1)
        have p4 : HdOk w _ [(W5.heap.size, Obj.cells #[.int .i64 (v2 / 1000000), .int .i64 t2, .int .i64 t3] 58 (0, 0)), (W1.heap.size, Obj.cells #[.int .i64 rate, .slice A l.length c] 54 (0, 0)), (w.heap.size + 1 + 1, Obj.cells #[.int .i64 nw, .int .i64 v2, .int .i64 s1, .slice none 0 0] 102 (0, 0)), (w.heap.size + 1, Obj.cells #[.int .u16 f, .int .i32 d, .int .u8 kd, .int .u8 e, .int .u8 la] 105 (0, 0)), (w.heap.size, Obj.cells #[.int .i64 nw, .int .i64 v2, .int .i64 s1, .slice A7 s2.length c7] 102 (0, 0))] := p3.put (i := 2) rfl 2 (.int .i64 s1)
        have q5 := Kd.Q_set q4 (p4.held 2 (w.heap.size + 1 + 1, Obj.cells #[.int .i64 nw, .int .i64 v2, .int .i64 s1, .slice none 0 0] 102 (0, 0)) rfl) (by decide) 3 (.slice A7 s2.length c7)
        have p5 : HdOk w _ [(W5.heap.size, Obj.cells #[.int .i64 (v2 / 1000000), .int .i64 t2, .int .i64 t3] 58 (0, 0)), (W1.heap.size, Obj.cells #[.int .i64 rate, .slice A l.length c] 54 (0, 0)), (w.heap.size + 1 + 1, Obj.cells #[.int .i64 nw, .int .i64 v2, .int .i64 s1, .slice A7 s2.length c7] 102 (0, 0)), (w.heap.size + 1, Obj.cells #[.int .u16 f, .int .i32 d, .int .u8 kd, .int .u8 e, .int .u8 la] 105 (0, 0)), (w.heap.size, Obj.cells #[.int .i64 nw, .int .i64 v2, .int .i64 s1, .slice A7 s2.length c7] 102 (0, 0))] := p4.put (i := 2) rfl 3 (.slice A7 s2.length c7)
        have q6 := Kd.Q_alloc q5 (Obj.cells #[.int .i64 s1, .slice A7 s2.length c7] 54 (0, 0))
        have okf : HdOk w _ [(_, Obj.cells #[.int .i64 s1, .slice A7 s2.length c7] 54 (0, 0)), (W5.heap.size, Obj.cells #[.int .i64 (v2 / 1000000), .int .i64 t2, .int .i64 t3] 58 (0, 0)), (W1.heap.size, Obj.cells #[.int .i64 rate, .slice A l.length c] 54 (0, 0)), (w.heap.size + 1 + 1, Obj.cells #[.int .i64 nw, .int .i64 v2, .int .i64 s1, .slice A7 s2.length c7] 102 (0, 0)), (w.heap.size + 1, Obj.cells #[.int .u16 f, .int .i32 d, .int .u8 kd, .int .u8 e, .int .u8 la] 105 (0, 0)), (w.heap.size, Obj.cells #[.int .i64 nw, .int .i64 v2, .int .i64 s1, .slice A7 s2.length c7] 102 (0, 0))] := p5.add (Obj.cells #[.int .i64 s1, .slice A7 s2.length c7] 54 (0, 0))
        have hf : _ = some (Obj.cells #[.int .i64 nw, .int .i64 v2, .int .i64 s1, .slice A7 s2.length c7] 102 (0, 0)) := okf.held 3 (w.heap.size + 1 + 1, Obj.cells #[.int .i64 nw, .int .i64 v2, .int .i64 s1, .slice A7 s2.length c7] 102 (0, 0)) rfl
        refine bodyPost_ret (results_ct rfl _ _ (w.heap.size + 1 + 1) 102 #[.int .i64 nw, .int .i64 v2, .int .i64 s1, .slice A7 s2.length c7] (0, 0) _ rfl hf Try.underlying102 rfl (by kernel_rfl)) rfl ?_
        exact ⟨_, _, rfl, (Kd.Q_lower q6 (Nat.le_trans HBS.out HS6.out)), HL7.out, okf.hb⟩
    · have c2b : ((kd % 3) == 2) = false := beq_eq_false_iff_ne.mpr c2
      have h0 := H.out
      rw [if_neg c0] at h0
      unfold goOn.read at h0
      rw [if_neg c2] at h0
      unfold goOn.val at h0
      rw [HDV.out, HP.out, HV2.out, HNW.out, HHI.out] at h0
      have hm : mx 0 (nw - e) = lo := by have := HLO.out; unfold mx; exact this
      rw [hm] at h0
      simp only [Option.bind_some] at h0
      obtain ⟨⟨s1, s2, s3⟩, hs, h1⟩ := Option.bind_eq_some_iff.1 h0
      have HS := Aside0.mk hs
      have H1 := Aside0.mk h1
      clear h0 hm hs h1
      go_wp2_with fail
      have ok6 := Aside0.mk (ok5.out.add (Obj.cells #[.int .i64 (v2 / 1000000), .int .i64 lo, .int .i64 hi] 58 (0, 0)))
      generalize W5.alloc (Obj.cells #[.int .i64 (v2 / 1000000), .int .i64 lo, .int .i64 hi] 58 (0, 0)) = W6 at ok6 ⊢
      clear hgt0 hgt1 hgt2 hgt3 hz0_0 hz0_1 hz1_0 hz1_1 hz1_2 hz1_3 hz2_0 hz2_1 hz2_2 hz2_3 hz2_4 hz3_0 hz3_1 hz3_2 hz3_3
      have hgt0 : W5.heap.size < W6.heap.size := blk_lt (ok6.out.held 0 _ rfl)
      have hz0_0 : W6.cell? ⟨W5.heap.size, 0, none⟩ = some (.int .i64 (v2 / 1000000)) := (blk_cell (ok6.out.held 0 _ rfl) 0).trans rfl
      have hz0_1 : W6.cell? ⟨W5.heap.size, 1, none⟩ = some (.int .i64 lo) := (blk_cell (ok6.out.held 0 _ rfl) 1).trans rfl
      have hz0_2 : W6.cell? ⟨W5.heap.size, 2, none⟩ = some (.int .i64 hi) := (blk_cell (ok6.out.held 0 _ rfl) 2).trans rfl
      have hgt1 : W1.heap.size < W6.heap.size := blk_lt (ok6.out.held 1 _ rfl)
      have hz1_0 : W6.cell? ⟨W1.heap.size, 0, none⟩ = some (.int .i64 rate) := (blk_cell (ok6.out.held 1 _ rfl) 0).trans rfl
      have hz1_1 : W6.cell? ⟨W1.heap.size, 1, none⟩ = some (.slice A l.length c) := (blk_cell (ok6.out.held 1 _ rfl) 1).trans rfl
      have hgt2 : w.heap.size + 1 + 1 < W6.heap.size := blk_lt (ok6.out.held 2 _ rfl)
      have hz2_0 : W6.cell? ⟨w.heap.size + 1 + 1, 0, none⟩ = some (.int .i64 0) := (blk_cell (ok6.out.held 2 _ rfl) 0).trans rfl
      have hz2_1 : W6.cell? ⟨w.heap.size + 1 + 1, 1, none⟩ = some (.int .i64 0) := (blk_cell (ok6.out.held 2 _ rfl) 1).trans rfl
      have hz2_2 : W6.cell? ⟨w.heap.size + 1 + 1, 2, none⟩ = some (.int .i64 0) := (blk_cell (ok6.out.held 2 _ rfl) 2).trans rfl
      have hz2_3 : W6.cell? ⟨w.heap.size + 1 + 1, 3, none⟩ = some (.slice none 0 0) := (blk_cell (ok6.out.held 2 _ rfl) 3).trans rfl
      have hgt3 : w.heap.size + 1 < W6.heap.size := blk_lt (ok6.out.held 3 _ rfl)
      have hz3_0 : W6.cell? ⟨w.heap.size + 1, 0, none⟩ = some (.int .u16 f) := (blk_cell (ok6.out.held 3 _ rfl) 0).trans rfl
      have hz3_1 : W6.cell? ⟨w.heap.size + 1, 1, none⟩ = some (.int .i32 d) := (blk_cell (ok6.out.held 3 _ rfl) 1).trans rfl
      have hz3_2 : W6.cell? ⟨w.heap.size + 1, 2, none⟩ = some (.int .u8 kd) := (blk_cell (ok6.out.held 3 _ rfl) 2).trans rfl
      have hz3_3 : W6.cell? ⟨w.heap.size + 1, 3, none⟩ = some (.int .u8 e) := (blk_cell (ok6.out.held 3 _ rfl) 3).trans rfl
      have hz3_4 : W6.cell? ⟨w.heap.size + 1, 4, none⟩ = some (.int .u8 la) := (blk_cell (ok6.out.held 3 _ rfl) 4).trans rfl
      have hgt4 : w.heap.size < W6.heap.size := blk_lt (ok6.out.held 4 _ rfl)
      have hz4_0 : W6.cell? ⟨w.heap.size, 0, none⟩ = some (.int .i64 nw) := (blk_cell (ok6.out.held 4 _ rfl) 0).trans rfl
      have hz4_1 : W6.cell? ⟨w.heap.size, 1, none⟩ = some (.int .i64 v2) := (blk_cell (ok6.out.held 4 _ rfl) 1).trans rfl
      have hz4_2 : W6.cell? ⟨w.heap.size, 2, none⟩ = some (.int .i64 rate) := (blk_cell (ok6.out.held 4 _ rfl) 2).trans rfl
      have hz4_3 : W6.cell? ⟨w.heap.size, 3, none⟩ = some (.slice A l.length c) := (blk_cell (ok6.out.held 4 _ rfl) 3).trans rfl
      refine (clock_Sync.calls k rate A c l (v2 / 1000000) (lo) (hi) s1 s2 s3 _ (Kd.C_below HR.out ok6.out.hb) HC.out HS.out).mono ?_
      have HS6 := Aside0.mk ok6.out.hb.size
      rintro ee W7 ⟨v7, rfl, hQ7, hb⟩
      have ok7 := Aside0.mk (ok6.out.step hb)
      clear hb
      obtain ⟨A7, c7, rfl, hlc7⟩ := Kd.Q_slice hQ7
      have HQ7 := Aside0.mk hQ7
      have HL7 := Aside0.mk hlc7
      clear hQ7 hlc7
      clear hgt0 hgt1 hgt2 hgt3 hgt4 hz0_0 hz0_1 hz0_2 hz1_0 hz1_1 hz2_0 hz2_1 hz2_2 hz2_3 hz3_0 hz3_1 hz3_2 hz3_3 hz3_4 hz4_0 hz4_1 hz4_2 hz4_3
      have hgt0 : W5.heap.size < W7.heap.size := blk_lt (ok7.out.held 0 _ rfl)
      have hz0_0 : W7.cell? ⟨W5.heap.size, 0, none⟩ = some (.int .i64 (v2 / 1000000)) := (blk_cell (ok7.out.held 0 _ rfl) 0).trans rfl
      have hz0_1 : W7.cell? ⟨W5.heap.size, 1, none⟩ = some (.int .i64 lo) := (blk_cell (ok7.out.held 0 _ rfl) 1).trans rfl
      have hz0_2 : W7.cell? ⟨W5.heap.size, 2, none⟩ = some (.int .i64 hi) := (blk_cell (ok7.out.held 0 _ rfl) 2).trans rfl
      have hgt1 : W1.heap.size < W7.heap.size := blk_lt (ok7.out.held 1 _ rfl)
      have hz1_0 : W7.cell? ⟨W1.heap.size, 0, none⟩ = some (.int .i64 rate) := (blk_cell (ok7.out.held 1 _ rfl) 0).trans rfl
      have hz1_1 : W7.cell? ⟨W1.heap.size, 1, none⟩ = some (.slice A l.length c) := (blk_cell (ok7.out.held 1 _ rfl) 1).trans rfl
      have hgt2 : w.heap.size + 1 + 1 < W7.heap.size := blk_lt (ok7.out.held 2 _ rfl)
      have hz2_0 : W7.cell? ⟨w.heap.size + 1 + 1, 0, none⟩ = some (.int .i64 0) := (blk_cell (ok7.out.held 2 _ rfl) 0).trans rfl
      have hz2_1 : W7.cell? ⟨w.heap.size + 1 + 1, 1, none⟩ = some (.int .i64 0) := (blk_cell (ok7.out.held 2 _ rfl) 1).trans rfl
      have hz2_2 : W7.cell? ⟨w.heap.size + 1 + 1, 2, none⟩ = some (.int .i64 0) := (blk_cell (ok7.out.held 2 _ rfl) 2).trans rfl
      have hz2_3 : W7.cell? ⟨w.heap.size + 1 + 1, 3, none⟩ = some (.slice none 0 0) := (blk_cell (ok7.out.held 2 _ rfl) 3).trans rfl
      have hf2_0 : W7.frozen? ⟨w.heap.size + 1 + 1, 0, none⟩ = false := blk_frozen (ok7.out.held 2 _ rfl) 0
      have hf2_1 : W7.frozen? ⟨w.heap.size + 1 + 1, 1, none⟩ = false := blk_frozen (ok7.out.held 2 _ rfl) 1
      have hf2_2 : W7.frozen? ⟨w.heap.size + 1 + 1, 2, none⟩ = false := blk_frozen (ok7.out.held 2 _ rfl) 2
      have hf2_3 : W7.frozen? ⟨w.heap.size + 1 + 1, 3, none⟩ = false := blk_frozen (ok7.out.held 2 _ rfl) 3
      have hgt3 : w.heap.size + 1 < W7.heap.size := blk_lt (ok7.out.held 3 _ rfl)
      have hz3_0 : W7.cell? ⟨w.heap.size + 1, 0, none⟩ = some (.int .u16 f) := (blk_cell (ok7.out.held 3 _ rfl) 0).trans rfl
      have hz3_1 : W7.cell? ⟨w.heap.size + 1, 1, none⟩ = some (.int .i32 d) := (blk_cell (ok7.out.held 3 _ rfl) 1).trans rfl
      have hz3_2 : W7.cell? ⟨w.heap.size + 1, 2, none⟩ = some (.int .u8 kd) := (blk_cell (ok7.out.held 3 _ rfl) 2).trans rfl
      have hz3_3 : W7.cell? ⟨w.heap.size + 1, 3, none⟩ = some (.int .u8 e) := (blk_cell (ok7.out.held 3 _ rfl) 3).trans rfl
      have hz3_4 : W7.cell? ⟨w.heap.size + 1, 4, none⟩ = some (.int .u8 la) := (blk_cell (ok7.out.held 3 _ rfl) 4).trans rfl
      have hgt4 : w.heap.size < W7.heap.size := blk_lt (ok7.out.held 4 _ rfl)
      have hz4_0 : W7.cell? ⟨w.heap.size, 0, none⟩ = some (.int .i64 nw) := (blk_cell (ok7.out.held 4 _ rfl) 0).trans rfl
      have hz4_1 : W7.cell? ⟨w.heap.size, 1, none⟩ = some (.int .i64 v2) := (blk_cell (ok7.out.held 4 _ rfl) 1).trans rfl
      have hz4_2 : W7.cell? ⟨w.heap.size, 2, none⟩ = some (.int .i64 rate) := (blk_cell (ok7.out.held 4 _ rfl) 2).trans rfl
      have hz4_3 : W7.cell? ⟨w.heap.size, 3, none⟩ = some (.slice A l.length c) := (blk_cell (ok7.out.held 4 _ rfl) 3).trans rfl
      have hf4_0 : W7.frozen? ⟨w.heap.size, 0, none⟩ = false := blk_frozen (ok7.out.held 4 _ rfl) 0
      have hf4_1 : W7.frozen? ⟨w.heap.size, 1, none⟩ = false := blk_frozen (ok7.out.held 4 _ rfl) 1
      have hf4_2 : W7.frozen? ⟨w.heap.size, 2, none⟩ = false := blk_frozen (ok7.out.held 4 _ rfl) 2
      have hf4_3 : W7.frozen? ⟨w.heap.size, 3, none⟩ = false := blk_frozen (ok7.out.held 4 _ rfl) 3
      by_cases c15 : s3 = 15
      · have c15b : ((s3 : Int) == 15) = true := beq_iff_eq.mpr c15
        have h0 := H1.out
        rw [if_pos c15] at h0
        by_cases c16 : 0 < l.length ∧ v2 / 1000000 ≤ (rd_T58 l ((l.length : Int) - 1)).f0
        rotate_left
        · rw [if_neg c16] at h0; cases h0
        rw [if_pos c16] at h0
        simp only [Option.some.injEq, Prod.mk.injEq] at h0
        obtain ⟨rfl, rfl, rfl, rfl, rfl⟩ := h0
        obtain ⟨ad, hA, -⟩ := at_T58 HR.out ((l.length : Int) - 1) (by omega) (by omega)
        subst hA
        obtain ⟨J, hJ⟩ : ∃ J, (l.length : Int) - 1 = J := ⟨_, rfl⟩
        have hJb : 0 ≤ J ∧ J < l.length ∧ J ≤ 1000 := by omega
        rw [hJ] at c16
        go_upto_region 18 with (fail)
        clear hgt0 hgt1 hgt2 hgt3 hgt4 hz0_0 hz0_1 hz0_2 hz1_0 hz1_1 hz2_0 hz2_1 hz2_2 hz2_3 hz3_0 hz3_1 hz3_2 hz3_3 hz3_4 hz4_0 hz4_1 hz4_2 hz4_3 hf2_0 hf2_1 hf2_2 hf2_3 hf4_0 hf4_1 hf4_2 hf4_3
        have ok8 : Aside0 (HdOk w _ [(_, Obj.cells #[.int .i64 s1, .slice A7 s2.length c7] 54 (0, 0)), (W5.heap.size, Obj.cells #[.int .i64 (v2 / 1000000), .int .i64 lo, .int .i64 hi] 58 (0, 0)), (W1.heap.size, Obj.cells #[.int .i64 rate, .slice (some ad) l.length c] 54 (0, 0)), (w.heap.size + 1 + 1, Obj.cells #[.int .i64 0, .int .i64 0, .int .i64 0, .slice none 0 0] 102 (0, 0)), (w.heap.size + 1, Obj.cells #[.int .u16 f, .int .i32 d, .int .u8 kd, .int .u8 e, .int .u8 la] 105 (0, 0)), (w.heap.size, Obj.cells #[.int .i64 nw, .int .i64 v2, .int .i64 rate, .slice (some ad) l.length c] 102 (0, 0))]) := ⟨ok7.out.add (Obj.cells #[.int .i64 s1, .slice A7 s2.length c7] 54 (0, 0))⟩
        generalize W7.alloc (Obj.cells #[.int .i64 s1, .slice A7 s2.length c7] 54 (0, 0)) = W8 at ok8 ⊢
        refine (wpIn_wide (n := 3)).1 ?_
        obtain ⟨S, hSdef⟩ : ∃ S : World → Prop, S = fun X => Below w.heap.size w X ∧ X.heap[w.heap.size]? = some (Obj.cells #[.int .i64 nw, .int .i64 v2, .int .i64 rate, .slice (some ad) l.length c] 102 (0, 0)) ∧ X.heap[W1.heap.size]? = some (Obj.cells #[.int .i64 rate, .slice (some ad) l.length c] 54 (0, 0)) := ⟨_, rfl⟩
        have ls : Aside0 (∀ X, S X → Below w.heap.size w X ∧ X.heap[w.heap.size]? = some (Obj.cells #[.int .i64 nw, .int .i64 v2, .int .i64 rate, .slice (some ad) l.length c] 102 (0, 0)) ∧ X.heap[W1.heap.size]? = some (Obj.cells #[.int .i64 rate, .slice (some ad) l.length c] 54 (0, 0))) := ⟨fun X h => by rw [hSdef] at h; exact h⟩
        have lt : Aside0 (∀ X (l0 : List (Nat × Obj)), HdOk w X l0 → l0[5]? = some (w.heap.size, Obj.cells #[.int .i64 nw, .int .i64 v2, .int .i64 rate, .slice (some ad) l.length c] 102 (0, 0)) → l0[2]? = some (W1.heap.size, Obj.cells #[.int .i64 rate, .slice (some ad) l.length c] 54 (0, 0)) → S X) := ⟨fun X l0 h h5 h2 => by rw [hSdef]; exact ⟨h.hb, h.held _ _ h5, h.held _ _ h2⟩⟩
        have ok8_0 := Aside0.mk (ok8.out.step (below_drew (Below.refl _ _)))
        have hS := Aside0.mk (lt.out _ _ ok8_0.out rfl rfl)
        clear hSdef
        refine wpIn_region_held S 20 hmix ?_
        refine wpAnyHI_take (i := 0) (v := .agg #[.int .i64 nw, .int .i64 v2, .int .i64 rate, .slice (some ad) l.length c]) (fun _ => trivial) rfl (by kernel_rfl) (fun _ _ _ h => h) (Or.inl ⟨by kernel_rfl, fun X hX => ?_⟩) (hS.out) ?_
        · have ym_0 : X.cell? ⟨w.heap.size, 0, none⟩ = some (.int .i64 nw) := (blk_cell (ls.out X hX).2.1 0).trans rfl; have ym_1 : X.cell? ⟨w.heap.size, 1, none⟩ = some (.int .i64 v2) := (blk_cell (ls.out X hX).2.1 1).trans rfl; have ym_2 : X.cell? ⟨w.heap.size, 2, none⟩ = some (.int .i64 rate) := (blk_cell (ls.out X hX).2.1 2).trans rfl; have ym_3 : X.cell? ⟨w.heap.size, 3, none⟩ = some (.slice (some ad) l.length c) := (blk_cell (ls.out X hX).2.1 3).trans rfl; go_simp
        refine wpAnyHI_take (i := 1) (v := .pointer (some ⟨W1.heap.size, 1, none⟩)) (fun _ => trivial) rfl (by kernel_rfl) (fun _ _ _ h => h) (Or.inl ⟨by kernel_rfl, fun X hX => ?_⟩) (hS.out) ?_
        · go_simp
        refine wpAnyHI_take (i := 2) (v := .slice (some ad) l.length c) (fun _ => trivial) rfl (by kernel_rfl) (fun _ _ _ h => h) (Or.inl ⟨by kernel_rfl, fun X hX => ?_⟩) (hS.out) ?_
        · have yc_1 : X.cell? ⟨W1.heap.size, 1, none⟩ = some (.slice (some ad) l.length c) := (blk_cell (ls.out X hX).2.2 1).trans rfl; go_simp
        refine wpAnyHI_take (i := 3) (v := .int .i64 l.length) (fun _ => trivial) rfl (by kernel_rfl) (fun _ _ _ h => h) (Or.inl ⟨by kernel_rfl, fun X hX => ?_⟩) (hS.out) ?_
        · go_simp
        refine wpAnyHI_take (i := 4) (v := .bool true) (fun _ => trivial) rfl (by kernel_rfl) (fun _ _ _ h => h) (Or.inl ⟨by kernel_rfl, fun X hX => ?_⟩) (hS.out) ?_
        · have hb1 : decide (0 < l.length) = true := decide_eq_true c16.1; have hb2 : decide ((0 : Int) < (l.length : Int)) = true := decide_eq_true (by omega); go_simp
        refine wpAnyHI_take (i := 5) (v := .bool true) (fun _ => trivial) rfl (by kernel_rfl) (fun _ _ _ h => h) (Or.inl ⟨by kernel_rfl, fun X hX => ?_⟩) (hS.out) ?_
        · go_simp
        refine wpAnyHI_take (i := 6) (v := .pointer (some ⟨W1.heap.size, 1, none⟩)) (fun _ => trivial) rfl (by kernel_rfl) (fun _ _ _ h => h) (Or.inl ⟨by kernel_rfl, fun X hX => ?_⟩) (hS.out) ?_
        · go_simp
        refine wpAnyHI_take (i := 7) (v := .slice (some ad) l.length c) (fun _ => trivial) rfl (by kernel_rfl) (fun _ _ _ h => h) (Or.inl ⟨by kernel_rfl, fun X hX => ?_⟩) (hS.out) ?_
        · have yc_1 : X.cell? ⟨W1.heap.size, 1, none⟩ = some (.slice (some ad) l.length c) := (blk_cell (ls.out X hX).2.2 1).trans rfl; go_simp
        refine wpAnyHI_take (i := 8) (v := .pointer (some ⟨W1.heap.size, 1, none⟩)) (fun _ => trivial) rfl (by kernel_rfl) (fun _ _ _ h => h) (Or.inl ⟨by kernel_rfl, fun X hX => ?_⟩) (hS.out) ?_
        · go_simp
        refine wpAnyHI_take (i := 9) (v := .slice (some ad) l.length c) (fun _ => trivial) rfl (by kernel_rfl) (fun _ _ _ h => h) (Or.inl ⟨by kernel_rfl, fun X hX => ?_⟩) (hS.out) ?_
        · have yc_1 : X.cell? ⟨W1.heap.size, 1, none⟩ = some (.slice (some ad) l.length c) := (blk_cell (ls.out X hX).2.2 1).trans rfl; go_simp
        refine wpAnyHI_take (i := 10) (v := .int .i64 l.length) (fun _ => trivial) rfl (by kernel_rfl) (fun _ _ _ h => h) (Or.inl ⟨by kernel_rfl, fun X hX => ?_⟩) (hS.out) ?_
        · go_simp
        refine wpAnyHI_take (i := 11) (v := .int .i64 J) (fun _ => trivial) rfl (by kernel_rfl) (fun _ _ _ h => h) (Or.inl ⟨by kernel_rfl, fun X hX => ?_⟩) (hS.out) ?_
        · go_simp; first | done | exact goOn.w64 (by omega) (by omega) | (rw [hJ]; exact goOn.w64 (by omega) (by omega))
        refine wpAnyHI_take (i := 12) (v := .pointer (some (ad.add (J.toNat * 3)))) (fun _ => trivial) rfl (by kernel_rfl) (fun _ _ _ h => h) (Or.inl ⟨by kernel_rfl, fun X hX => ?_⟩) (hS.out) ?_
        · go_simp
        refine wpAnyHI_take (i := 13) (v := .pointer (some (ad.add (J.toNat * 3)))) (fun _ => trivial) rfl (by kernel_rfl) (fun _ _ _ h => h) (Or.inl ⟨by kernel_rfl, fun X hX => ?_⟩) (hS.out) ?_
        · go_simp
        refine wpAnyHI_take (i := 14) (v := .int .i64 ((rd_T58 l J).f0)) (fun _ => trivial) rfl (by kernel_rfl) (fun _ _ _ h => h) (Or.inl ⟨by kernel_rfl, fun X hX => ?_⟩) (hS.out) ?_
        · obtain ⟨ad', hA', q0, -, -⟩ := at_T58 (Kd.C_below HR.out (ls.out X hX).1) J hJb.1 hJb.2.1; obtain rfl := Option.some.inj hA'; go_simp
        refine wpAnyHI_take (i := 15) (v := .int .i64 (v2 / 1000000)) (fun _ => trivial) rfl (by kernel_rfl) (fun _ _ _ h => h) (Or.inl ⟨by kernel_rfl, fun X hX => ?_⟩) (hS.out) ?_
        · go_simp
        refine wpAnyHI_take (i := 16) (v := .bool true) (fun _ => trivial) rfl (by kernel_rfl) (fun _ _ _ h => h) (Or.inl ⟨by kernel_rfl, fun X hX => ?_⟩) (hS.out) ?_
        · have hb3 : decide (v2 / 1000000 ≤ (rd_T58 l J).f0) = true := decide_eq_true c16.2; have hb4 : decide ((rd_T58 l J).f0 ≥ v2 / 1000000) = true := decide_eq_true c16.2; go_simp
        refine wpAnyHI_take (i := 17) (v := .bool true) (fun _ => trivial) rfl (by kernel_rfl) (fun _ _ _ h => h) (Or.inl ⟨by kernel_rfl, fun X hX => ?_⟩) (hS.out) ?_
        · go_simp
        have hz0 : W8.cell? ⟨w.heap.size + 1 + 1, 0, none⟩ = some (.int .i64 0) := (blk_cell (ok8.out.held 3 _ rfl) 0).trans rfl
        have hz1 : W8.cell? ⟨w.heap.size + 1 + 1, 1, none⟩ = some (.int .i64 0) := (blk_cell (ok8.out.held 3 _ rfl) 1).trans rfl
        have hz2 : W8.cell? ⟨w.heap.size + 1 + 1, 2, none⟩ = some (.int .i64 0) := (blk_cell (ok8.out.held 3 _ rfl) 2).trans rfl
        have hz3 : W8.cell? ⟨w.heap.size + 1 + 1, 3, none⟩ = some (.slice none 0 0) := (blk_cell (ok8.out.held 3 _ rfl) 3).trans rfl
        have hf0 : W8.frozen? ⟨w.heap.size + 1 + 1, 0, none⟩ = false := blk_frozen (ok8.out.held 3 _ rfl) 0
        have hf1 : W8.frozen? ⟨w.heap.size + 1 + 1, 1, none⟩ = false := blk_frozen (ok8.out.held 3 _ rfl) 1
        have hf2 : W8.frozen? ⟨w.heap.size + 1 + 1, 2, none⟩ = false := blk_frozen (ok8.out.held 3 _ rfl) 2
        have hf3 : W8.frozen? ⟨w.heap.size + 1 + 1, 3, none⟩ = false := blk_frozen (ok8.out.held 3 _ rfl) 3
        refine wpAnyHI_one (i := 18) (fun _ => trivial) rfl (by kernel_rfl) (fun K' hK' => ?_)
        rw [if_pos (by kernel_rfl)]
        go_simp
        clear hz0 hf0 hz1 hf1 hz2 hf2 hz3 hf3
        have p0 : HdOk w _ [(W7.heap.size, Obj.cells #[.int .i64 s1, .slice A7 s2.length c7] 54 (0, 0)), (W5.heap.size, Obj.cells #[.int .i64 (v2 / 1000000), .int .i64 lo, .int .i64 hi] 58 (0, 0)), (W1.heap.size, Obj.cells #[.int .i64 rate, .slice (some ad) l.length c] 54 (0, 0)), (w.heap.size + 1 + 1, Obj.cells #[.int .i64 nw, .int .i64 0, .int .i64 0, .slice none 0 0] 102 (0, 0)), (w.heap.size + 1, Obj.cells #[.int .u16 f, .int .i32 d, .int .u8 kd, .int .u8 e, .int .u8 la] 105 (0, 0)), (w.heap.size, Obj.cells #[.int .i64 nw, .int .i64 v2, .int .i64 rate, .slice (some ad) l.length c] 102 (0, 0))] := ok8.out.put (i := 3) rfl 0 (.int .i64 nw)
        have p1 : HdOk w _ [(W7.heap.size, Obj.cells #[.int .i64 s1, .slice A7 s2.length c7] 54 (0, 0)), (W5.heap.size, Obj.cells #[.int .i64 (v2 / 1000000), .int .i64 lo, .int .i64 hi] 58 (0, 0)), (W1.heap.size, Obj.cells #[.int .i64 rate, .slice (some ad) l.length c] 54 (0, 0)), (w.heap.size + 1 + 1, Obj.cells #[.int .i64 nw, .int .i64 v2, .int .i64 0, .slice none 0 0] 102 (0, 0)), (w.heap.size + 1, Obj.cells #[.int .u16 f, .int .i32 d, .int .u8 kd, .int .u8 e, .int .u8 la] 105 (0, 0)), (w.heap.size, Obj.cells #[.int .i64 nw, .int .i64 v2, .int .i64 rate, .slice (some ad) l.length c] 102 (0, 0))] := p0.put (i := 3) rfl 1 (.int .i64 v2)
        have p2 : HdOk w _ [(W7.heap.size, Obj.cells #[.int .i64 s1, .slice A7 s2.length c7] 54 (0, 0)), (W5.heap.size, Obj.cells #[.int .i64 (v2 / 1000000), .int .i64 lo, .int .i64 hi] 58 (0, 0)), (W1.heap.size, Obj.cells #[.int .i64 rate, .slice (some ad) l.length c] 54 (0, 0)), (w.heap.size + 1 + 1, Obj.cells #[.int .i64 nw, .int .i64 v2, .int .i64 rate, .slice none 0 0] 102 (0, 0)), (w.heap.size + 1, Obj.cells #[.int .u16 f, .int .i32 d, .int .u8 kd, .int .u8 e, .int .u8 la] 105 (0, 0)), (w.heap.size, Obj.cells #[.int .i64 nw, .int .i64 v2, .int .i64 rate, .slice (some ad) l.length c] 102 (0, 0))] := p1.put (i := 3) rfl 2 (.int .i64 rate)
        have p3 : HdOk w _ [(W7.heap.size, Obj.cells #[.int .i64 s1, .slice A7 s2.length c7] 54 (0, 0)), (W5.heap.size, Obj.cells #[.int .i64 (v2 / 1000000), .int .i64 lo, .int .i64 hi] 58 (0, 0)), (W1.heap.size, Obj.cells #[.int .i64 rate, .slice (some ad) l.length c] 54 (0, 0)), (w.heap.size + 1 + 1, Obj.cells #[.int .i64 nw, .int .i64 v2, .int .i64 rate, .slice (some ad) l.length c] 102 (0, 0)), (w.heap.size + 1, Obj.cells #[.int .u16 f, .int .i32 d, .int .u8 kd, .int .u8 e, .int .u8 la] 105 (0, 0)), (w.heap.size, Obj.cells #[.int .i64 nw, .int .i64 v2, .int .i64 rate, .slice (some ad) l.length c] 102 (0, 0))] := p2.put (i := 3) rfl 3 (.slice (some ad) l.length c)
        have okz := Aside0.mk (p3.step (below_drew (Below.refl _ _)))
        refine hK' _ _ (lt.out _ _ okz.out rfl rfl) ?_
        clear hK' K'
        refine wpAnyHI_take (i := 19) (v := .bool true) (fun _ => trivial) rfl (by kernel_rfl) (fun _ _ _ h => h) (Or.inl ⟨by kernel_rfl, fun X hX => ?_⟩) (lt.out _ _ okz.out rfl rfl) ?_
        · go_simp
        refine wpAnyHI_done (by kernel_rfl) ?_ _
        go_simp
        clear ls lt hS S
        go_wp2_with fail
        have okf : HdOk w _ [(W7.heap.size, Obj.cells #[.int .i64 s1, .slice A7 s2.length c7] 54 (0, 0)), (W5.heap.size, Obj.cells #[.int .i64 (v2 / 1000000), .int .i64 lo, .int .i64 hi] 58 (0, 0)), (W1.heap.size, Obj.cells #[.int .i64 rate, .slice (some ad) l.length c] 54 (0, 0)), (w.heap.size + 1 + 1, Obj.cells #[.int .i64 nw, .int .i64 v2, .int .i64 rate, .slice (some ad) l.length c] 102 (0, 0)), (w.heap.size + 1, Obj.cells #[.int .u16 f, .int .i32 d, .int .u8 kd, .int .u8 e, .int .u8 la] 105 (0, 0)), (w.heap.size, Obj.cells #[.int .i64 nw, .int .i64 v2, .int .i64 rate, .slice (some ad) l.length c] 102 (0, 0))] := okz.out
        have hf : _ = some (Obj.cells #[.int .i64 nw, .int .i64 v2, .int .i64 rate, .slice (some ad) l.length c] 102 (0, 0)) := okf.held 3 (w.heap.size + 1 + 1, Obj.cells #[.int .i64 nw, .int .i64 v2, .int .i64 rate, .slice (some ad) l.length c] 102 (0, 0)) rfl
        refine bodyPost_ret (results_ct rfl _ _ (w.heap.size + 1 + 1) 102 #[.int .i64 nw, .int .i64 v2, .int .i64 rate, .slice (some ad) l.length c] (0, 0) _ rfl hf Try.underlying102 rfl (by kernel_rfl)) rfl ?_
        exact ⟨_, _, rfl, Kd.Q_below HQ.out okf.hb, HC.out, okf.hb⟩
      · have c15b : ((s3 : Int) == 15) = false := beq_eq_false_iff_ne.mpr c15
        go_wp2_with fail
        have h0 := H1.out
        rw [if_neg c15] at h0
        by_cases c3 : s3 = 0
        rotate_left
        · rw [if_neg c3] at h0; cases h0
        rw [if_pos c3] at h0
        simp only [Option.some.injEq, Prod.mk.injEq] at h0
        obtain ⟨rfl, rfl, rfl, rfl, rfl⟩ := h0
        subst c3
        have q0 := Kd.Q_set HQ7.out (ok7.out.held 4 (w.heap.size, Obj.cells #[.int .i64 nw, .int .i64 v2, .int .i64 rate, .slice A l.length c] 102 (0, 0)) rfl) (by decide) 2 (.int .i64 s1)
        have p0 : HdOk w _ [(W5.heap.size, Obj.cells #[.int .i64 (v2 / 1000000), .int .i64 lo, .int .i64 hi] 58 (0, 0)), (W1.heap.size, Obj.cells #[.int .i64 rate, .slice A l.length c] 54 (0, 0)), (w.heap.size + 1 + 1, Obj.cells #[.int .i64 0, .int .i64 0, .int .i64 0, .slice none 0 0] 102 (0, 0)), (w.heap.size + 1, Obj.cells #[.int .u16 f, .int .i32 d, .int .u8 kd, .int .u8 e, .int .u8 la] 105 (0, 0)), (w.heap.size, Obj.cells #[.int .i64 nw, .int .i64 v2, .int .i64 s1, .slice A l.length c] 102 (0, 0))] := ok7.out.put (i := 4) rfl 2 (.int .i64 s1)
        have q1 := Kd.Q_set q0 (p0.held 4 (w.heap.size, Obj.cells #[.int .i64 nw, .int .i64 v2, .int .i64 s1, .slice A l.length c] 102 (0, 0)) rfl) (by decide) 3 (.slice A7 s2.length c7)
        have p1 : HdOk w _ [(W5.heap.size, Obj.cells #[.int .i64 (v2 / 1000000), .int .i64 lo, .int .i64 hi] 58 (0, 0)), (W1.heap.size, Obj.cells #[.int .i64 rate, .slice A l.length c] 54 (0, 0)), (w.heap.size + 1 + 1, Obj.cells #[.int .i64 0, .int .i64 0, .int .i64 0, .slice none 0 0] 102 (0, 0)), (w.heap.size + 1, Obj.cells #[.int .u16 f, .int .i32 d, .int .u8 kd, .int .u8 e, .int .u8 la] 105 (0, 0)), (w.heap.size, Obj.cells #[.int .i64 nw, .int .i64 v2, .int .i64 s1, .slice A7 s2.length c7] 102 (0, 0))] := p0.put (i := 4) rfl 3 (.slice A7 s2.length c7)
        have q2 := Kd.Q_set q1 (p1.held 2 (w.heap.size + 1 + 1, Obj.cells #[.int .i64 0, .int .i64 0, .int .i64 0, .slice none 0 0] 102 (0, 0)) rfl) (by decide) 0 (.int .i64 nw)
        have p2 : HdOk w _ [(W5.heap.size, Obj.cells #[.int .i64 (v2 / 1000000), .int .i64 lo, .int .i64 hi] 58 (0, 0)), (W1.heap.size, Obj.cells #[.int .i64 rate, .slice A l.length c] 54 (0, 0)), (w.heap.size + 1 + 1, Obj.cells #[.int .i64 nw, .int .i64 0, .int .i64 0, .slice none 0 0] 102 (0, 0)), (w.heap.size + 1, Obj.cells #[.int .u16 f, .int .i32 d, .int .u8 kd, .int .u8 e, .int .u8 la] 105 (0, 0)), (w.heap.size, Obj.cells #[.int .i64 nw, .int .i64 v2, .int .i64 s1, .slice A7 s2.length c7] 102 (0, 0))] := p1.put (i := 2) rfl 0 (.int .i64 nw)
        have q3 := Kd.Q_set q2 (p2.held 2 (w.heap.size + 1 + 1, Obj.cells #[.int .i64 nw, .int .i64 0, .int .i64 0, .slice none 0 0] 102 (0, 0)) rfl) (by decide) 1 (.int .i64 v2)
        have p3 : HdOk w _ [(W5.heap.size, Obj.cells #[.int .i64 (v2 / 1000000), .int .i64 lo, .int .i64 hi] 58 (0, 0)), (W1.heap.size, Obj.cells #[.int .i64 rate, .slice A l.length c] 54 (0, 0)), (w.heap.size + 1 + 1, Obj.cells #[.int .i64 nw, .int .i64 v2, .int .i64 0, .slice none 0 0] 102 (0, 0)), (w.heap.size + 1, Obj.cells #[.int .u16 f, .int .i32 d, .int .u8 kd, .int .u8 e, .int .u8 la] 105 (0, 0)), (w.heap.size, Obj.cells #[.int .i64 nw, .int .i64 v2, .int .i64 s1, .slice A7 s2.length c7] 102 (0, 0))] := p2.put (i := 2) rfl 1 (.int .i64 v2)
        have q4 := Kd.Q_set q3 (p3.held 2 (w.heap.size + 1 + 1, Obj.cells #[.int .i64 nw, .int .i64 v2, .int .i64 0, .slice none 0 0] 102 (0, 0)) rfl) (by decide) 2 (.int .i64 s1)
        have p4 : HdOk w _ [(W5.heap.size, Obj.cells #[.int .i64 (v2 / 1000000), .int .i64 lo, .int .i64 hi] 58 (0, 0)), (W1.heap.size, Obj.cells #[.int .i64 rate, .slice A l.length c] 54 (0, 0)), (w.heap.size + 1 + 1, Obj.cells #[.int .i64 nw, .int .i64 v2, .int .i64 s1, .slice none 0 0] 102 (0, 0)), (w.heap.size + 1, Obj.cells #[.int .u16 f, .int .i32 d, .int .u8 kd, .int .u8 e, .int .u8 la] 105 (0, 0)), (w.heap.size, Obj.cells #[.int .i64 nw, .int .i64 v2, .int .i64 s1, .slice A7 s2.length c7] 102 (0, 0))] := p3.put (i := 2) rfl 2 (.int .i64 s1)
        have q5 := Kd.Q_set q4 (p4.held 2 (w.heap.size + 1 + 1, Obj.cells #[.int .i64 nw, .int .i64 v2, .int .i64 s1, .slice none 0 0] 102 (0, 0)) rfl) (by decide) 3 (.slice A7 s2.length c7)
        have p5 : HdOk w _ [(W5.heap.size, Obj.cells #[.int .i64 (v2 / 1000000), .int .i64 lo, .int .i64 hi] 58 (0, 0)), (W1.heap.size, Obj.cells #[.int .i64 rate, .slice A l.length c] 54 (0, 0)), (w.heap.size + 1 + 1, Obj.cells #[.int .i64 nw, .int .i64 v2, .int .i64 s1, .slice A7 s2.length c7] 102 (0, 0)), (w.heap.size + 1, Obj.cells #[.int .u16 f, .int .i32 d, .int .u8 kd, .int .u8 e, .int .u8 la] 105 (0, 0)), (w.heap.size, Obj.cells #[.int .i64 nw, .int .i64 v2, .int .i64 s1, .slice A7 s2.length c7] 102 (0, 0))] := p4.put (i := 2) rfl 3 (.slice A7 s2.length c7)
        have q6 := Kd.Q_alloc q5 (Obj.cells #[.int .i64 s1, .slice A7 s2.length c7] 54 (0, 0))
        have okf : HdOk w _ [(_, Obj.cells #[.int .i64 s1, .slice A7 s2.length c7] 54 (0, 0)), (W5.heap.size, Obj.cells #[.int .i64 (v2 / 1000000), .int .i64 lo, .int .i64 hi] 58 (0, 0)), (W1.heap.size, Obj.cells #[.int .i64 rate, .slice A l.length c] 54 (0, 0)), (w.heap.size + 1 + 1, Obj.cells #[.int .i64 nw, .int .i64 v2, .int .i64 s1, .slice A7 s2.length c7] 102 (0, 0)), (w.heap.size + 1, Obj.cells #[.int .u16 f, .int .i32 d, .int .u8 kd, .int .u8 e, .int .u8 la] 105 (0, 0)), (w.heap.size, Obj.cells #[.int .i64 nw, .int .i64 v2, .int .i64 s1, .slice A7 s2.length c7] 102 (0, 0))] := p5.add (Obj.cells #[.int .i64 s1, .slice A7 s2.length c7] 54 (0, 0))
        have hf : _ = some (Obj.cells #[.int .i64 nw, .int .i64 v2, .int .i64 s1, .slice A7 s2.length c7] 102 (0, 0)) := okf.held 3 (w.heap.size + 1 + 1, Obj.cells #[.int .i64 nw, .int .i64 v2, .int .i64 s1, .slice A7 s2.length c7] 102 (0, 0)) rfl
        refine bodyPost_ret (results_ct rfl _ _ (w.heap.size + 1 + 1) 102 #[.int .i64 nw, .int .i64 v2, .int .i64 s1, .slice A7 s2.length c7] (0, 0) _ rfl hf Try.underlying102 rfl (by kernel_rfl)) rfl ?_
        exact ⟨_, _, rfl, (Kd.Q_lower q6 (Nat.le_trans HBS.out HS6.out)), HL7.out, okf.hb⟩
end Go.Proofs.Yteknbadjfojmbaa.QA
