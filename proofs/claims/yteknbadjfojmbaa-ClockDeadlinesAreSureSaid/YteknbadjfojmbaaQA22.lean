-- What this claim does not use was left out by prune.py, a program of this session.
import Derived.Test.YteknbadjfojmbaaQA0
import Derived.Test.YteknbadjfojmbaaQA4
import Derived.Test.YteknbadjfojmbaaQA21
namespace Go.Proofs.Yteknbadjfojmbaa.QA
open Go.RowKit Go.Proofs.YteknbadjfojmbaaW.PrintWords Go.Proofs.YteknbadjfojmbaaW.PrintLast Go.Proofs.YteknbadjfojmbaaW.PrintMore
attribute [local go_sem] max2_int min2_int max_two min_two max_three min_three max_four min_four
set_option linter.unusedVariables false
set_option linter.unusedSimpArgs false
section
variable {F : Fence} {n : Nat} {P : Program} {ops : Array Oper} {Q : Exit → Act → World → Prop} {md : Region.Mode}
def LL (l : Array Bool) (k : Nat) : Prop := l[k]? = some true
theorem LL_ne {l : Array Bool} {i k : Nat} (h : i ≠ k) : LL (l.setIfInBounds i true) k ↔ LL l k := by
  unfold LL
  rw [Array.getElem?_setIfInBounds_ne h]
theorem LL_self {l : Array Bool} {i : Nat} (h : i < l.size) : LL (l.setIfInBounds i true) i := by
  unfold LL
  rw [Array.getElem?_setIfInBounds_self_of_lt h]
theorem ready_not {l : Array Bool} {i : Nat} (h : i ∈ Region.ready md ops l) : ¬ LL l i := by
  intro e
  have := (ready_getD h).1
  rw [Array.getD_eq_getD_getElem?, e] at this
  cases this
theorem ready_dep {l : Array Bool} (hc : ClosedL md ops l) {i j : Nat} (h : i ∈ Region.ready md ops l) (hn : needsL md ops ops.size i j = true) : LL l j :=
  needsL_spec hc _ _ hn (ready_getD h).2
theorem closed_dep {l : Array Bool} (hc : ClosedL md ops l) {i j : Nat} (h : LL l i) (hn : needsL md ops ops.size i j = true) : LL l j :=
  needsL_spec hc _ _ hn (fun o ho e he hb => hc i o ho h e he hb)
def progB (md : Region.Mode) (ops : Array Oper) : Bool := (List.range ops.size).all fun k => match ops[k]? with | none => true | some o => o.after.all (fun e => !Region.binds md e || decide (e.on < k))
theorem ready_some (hp : progB md ops = true) {l : Array Bool} (hs : l.size = ops.size) (k : Nat) (hk : k < ops.size) (hl : ¬ LL l k) : ∃ i, i ∈ Region.ready md ops l := by
  induction k using Nat.strongRecOn with
  | _ k ih =>
    obtain ⟨o, ho⟩ : ∃ o, ops[k]? = some o := ⟨ops[k], Array.getElem?_eq_getElem hk⟩
    by_cases hd : ∀ e ∈ o.after, Region.binds md e = true → LL l e.on
    · refine ⟨k, mem_ready.2 ⟨?_, o, ho, fun e he hb => ?_⟩⟩
      · rw [Array.getD_eq_getD_getElem?]
        unfold LL at hl
        rw [Array.getElem?_eq_getElem (by omega)] at hl ⊢
        cases hx : l[k]'(by omega)
        · rfl
        · rw [hx] at hl; exact absurd rfl hl
      · have h1 := hd e he hb
        unfold LL at h1
        rw [Array.getD_eq_getD_getElem?, h1]
        rfl
    · have hd' : ∃ e, e ∈ o.after ∧ Region.binds md e = true ∧ ¬ LL l e.on := by
        apply Classical.byContradiction
        intro hno
        exact hd (fun e he hb => Classical.byContradiction fun hx => hno ⟨e, he, hb, hx⟩)
      obtain ⟨e, he, hb, hx⟩ := hd'
      have h1 := List.all_eq_true.1 hp k (List.mem_range.2 hk)
      rw [ho] at h1
      have h2 := (Array.all_eq_true_iff_forall_mem.1 h1) e he
      rw [hb] at h2
      have h3 : e.on < k := by simpa using h2
      exact ih e.on h3 (by omega) hx
theorem wpAnyIn_inv {INV : Array Bool → Act → World → Prop} (hp : progB md ops = true)
    (hstep : ∀ i l a w, i < ops.size → INV l a w → i ∈ Region.ready md ops l → wpOpIn F n P ops Q i (fun a' w' => INV (l.setIfInBounds i true) a' w') a w)
    (hend : ∀ l a w, INV l a w → (∀ i, i < ops.size → LL l i) → Q .normal a w) (hsz : ∀ l a w, INV l a w → l.size = ops.size) :
    ∀ fuel l a w, INV l a w → l.toList.count false ≤ fuel → wpAnyIn F n P md ops Q fuel l a w := by
  have hall : ∀ l a w, INV l a w → Region.ready md ops l = [] → Q .normal a w := by
    intro l a w h hr
    refine hend l a w h (fun i hi => Classical.byContradiction fun hx => ?_)
    obtain ⟨j, hj⟩ := ready_some hp (hsz l a w h) i hi hx
    rw [hr] at hj
    cases hj
  intro fuel
  induction fuel with
  | zero =>
    intro l a w h hc
    have hr : Region.ready md ops l = [] := by
      cases hr : Region.ready md ops l with
      | nil => rfl
      | cons i rest =>
        exfalso
        have hi : i ∈ Region.ready md ops l := by rw [hr]; exact List.mem_cons_self
        obtain ⟨h1, o, ho, _⟩ := mem_ready.1 hi
        have hlt : i < l.size := by rw [hsz l a w h]; exact (Array.getElem?_eq_some_iff.1 ho).1
        rw [Array.getD_eq_getD_getElem?, Array.getElem?_eq_getElem hlt] at h1
        have h2 : l[i] = false := h1
        have h3 : 0 < l.toList.count false := List.count_pos_iff.2 (by rw [← h2]; exact Array.getElem_mem_toList hlt)
        omega
    exact ⟨hr, hall l a w h hr⟩
  | succ fuel ih =>
    intro l a w h hc
    refine ⟨hall l a w h, fun i hi => ?_⟩
    obtain ⟨h1, o, ho, _⟩ := mem_ready.1 hi
    have hio : i < ops.size := (Array.getElem?_eq_some_iff.1 ho).1
    have hlt : i < l.size := by rw [hsz l a w h]; exact hio
    refine wpOpIn_mono (fun a' w' h' => ih _ a' w' h' ?_) (hstep i l a w hio h hi)
    rw [Array.getD_eq_getD_getElem?, Array.getElem?_eq_getElem hlt] at h1
    have h2 : l[i] = false := h1
    have h3 : 0 < l.toList.count false := List.count_pos_iff.2 (by rw [← h2]; exact Array.getElem_mem_toList hlt)
    rw [Array.toList_setIfInBounds, List.count_set (by simpa using hlt)]
    have h4 : (l.toList[i] == false) = true := by simp [h2]
    rw [if_pos h4, if_neg (show ¬ ((true == false) = true) by decide)]
    omega
theorem wpIn_region_inv {INV : Array Bool → Act → World → Prop} {id : Nat} {a : Act} {w : World} (hm : P.follows .mixedOrders = true) (hp : progB .any ops = true)
    (hstep : ∀ i l a w, i < ops.size → INV l a w → i ∈ Region.ready .any ops l → wpOpIn F n P ops Q i (fun a' w' => INV (l.setIfInBounds i true) a' w') a w)
    (hend : ∀ l a w, INV l a w → (∀ i, i < ops.size → LL l i) → Q .normal a w) (hsz : ∀ l a w, INV l a w → l.size = ops.size)
    (h0 : INV (Array.replicate ops.size false) a w.drew) : (Code.region id ops true).wpIn F n P Q a w :=
  wpIn_region_any hm (wpAnyIn_inv hp hstep hend hsz ops.size _ a _ h0 (Nat.le_trans List.count_le_length (by simp)))
theorem wpOpIn_go {i : Nat} {o : Oper} {K : Act → World → Prop} {a : Act} {w : World} (hi : ops[i]? = some o) (hw : Region.wanted o (yielded ops a.tmps) = true) (h : Oper.wpIn F n P o a w K Q) : wpOpIn F n P ops Q i K a w := by
  unfold wpOpIn
  rw [hi]
  dsimp only
  rw [if_pos hw]
  exact h
theorem opIn_append {o : Oper} {a : Act} {w : World} {K : Act → World → Prop} (hF : ∀ f, F.fn f) (s x : Operand) (t : TypeId)
    (ho : o.op = .call { callee := .builtin .append, args := #[s, x], argTypes := #[t, t] })
    (base : Nat) (e : TypeId) (i : TypeInfo) (z : Value) (size bytes : Nat) (ht : P.underlying t = some (.slice e)) (hi : P.info? e = some i) (hz : i.zero = some z)
    (hsize : i.size = size) (hby : i.bytes = bytes) (hzs : z.cells.size = size) (hsz : 0 < size)
    (v : Value) (k : Nat) (xs : List Value) (hs : a.eval s = v) (hown : w.ownsRow base e size v k xs)
    (ad : Addr) (m c : Nat) (news : List Value) (hx : a.eval x = .slice (some ad) m c) (hl : news.length = m * size) (hnews : ∀ j u, news[j]? = some u → w.cell? (ad.add j) = some u) (h1 : ∀ u ∈ news, u.oneCell' = true)
    (hm : 0 < m) (h63 : k + m ≤ maxLen) (hbytes : (k + m) * bytes ≤ 140737488355328) (hbase : base ≤ w.heap.size)
    (h : ∀ g cap w', w'.ownsRow base e size (.slice (some ⟨g, 0, none⟩) (k + m) cap) (k + m) (xs ++ news) → w.grownBy w' v.ownBlock → (v.ownBlock = some g ∨ g = w.heap.size) → g < w'.heap.size → K (a.put o.dst (.slice (some ⟨g, 0, none⟩) (k + m) cap)) w') :
    Oper.wpIn F n P o a w K Q := by
  obtain ⟨g, cap, w', hr, h2, h3, h4, h5⟩ := run_append_lies (P := P) w t o.type base e i z size bytes ht hi hz hsize hby hzs hsz v k xs hown ad m c news hl hnews h1 hm h63 hbytes hbase _ rfl
  unfold Oper.wpIn
  refine ⟨fun f _ => hF f, ?_⟩
  rw [Oper.semAt_plain F _ _ (by rw [ho]; intro c hc'; cases hc')]
  simp [execOp, ho, resolve, invoke, builtin, hs, hx, hr, Result.andThen, Oper.uponIn]
  exact h g cap w' h2 h3 h4 h5
end
structure ChainL (e base H0 : Nat) (v : Value) (n : Nat) (xs : List Value) (y : Value) (b c : Prop) (xb xa : Value) (O : List Nat) (W : World) : Prop where
  lt : ∀ g, g ∈ O → g < W.heap.size
  old : ∀ g, g ∈ O → some g = v.ownBlock ∨ H0 ≤ g
  row : ¬ c → W.ownsRow base e 1 v n xs ∧ ∀ g, v.ownBlock = some g → g ∈ O
  lit : b → ¬ c → ∃ p, xb = .slice (some ⟨p, 0, none⟩) 1 1 ∧ W.cell? ⟨p, 0, none⟩ = some y ∧ p ∈ O
  res : c → ∃ g cap, xa = .slice (some ⟨g, 0, none⟩) (n + 1) cap ∧ W.ownsRow base e 1 xa (n + 1) (xs ++ [y]) ∧ g ∈ O
theorem ChainL.move {e base H0 : Nat} {v : Value} {n : Nat} {xs : List Value} {y : Value} {b c b' c' : Prop} {xb xa xb' xa' : Value} {O : List Nat} {W W' : World} (h : ChainL e base H0 v n xs y b c xb xa O W) (hb : b' ↔ b) (hc : c' ↔ c) (hxb : b → xb' = xb) (hxa : c → xa' = xa) (hs : W.heap.size ≤ W'.heap.size) (hO : ∀ g, g ∈ O → W'.heap[g]? = W.heap[g]?) : ChainL e base H0 v n xs y b' c' xb' xa' O W' := by
  refine ⟨fun g hg => Nat.lt_of_lt_of_le (h.lt g hg) hs, h.old, fun hn => ?_, fun h1 h2 => ?_, fun h1 => ?_⟩
  · obtain ⟨r1, r2⟩ := h.row (fun x => hn (hc.2 x))
    exact ⟨own_move r1 (fun k hk => hO k (r2 k hk)), r2⟩
  · obtain ⟨p, e1, e2, e3⟩ := h.lit (hb.1 h1) (fun x => h2 (hc.2 x))
    exact ⟨p, (hxb (hb.1 h1)).trans e1, (World.cell?_of_block (w := W) (hO p e3)).trans e2, e3⟩
  · obtain ⟨g, cap, e1, e2, e3⟩ := h.res (hc.1 h1)
    refine ⟨g, cap, (hxa (hc.1 h1)).trans e1, ?_, e3⟩
    rw [hxa (hc.1 h1)]
    exact own_move e2 (fun k hk => by rw [e1] at hk; simp [Value.ownBlock] at hk; subst hk; exact hO _ e3)
theorem ChainL.build {e base H0 : Nat} {v : Value} {n : Nat} {xs : List Value} {y : Value} {b c b' c' : Prop} {xb xa : Value} {O : List Nat} {W : World} (h : ChainL e base H0 v n xs y b c xb xa O W) (hc : c' ↔ c) (hnc : ¬ c) (hH : H0 ≤ W.heap.size) : ChainL e base H0 v n xs y b' c' (.slice (some ⟨W.heap.size, 0, none⟩) 1 1) xa (W.heap.size :: O) (W.alloc (.cells #[y] e)) := by
  refine ⟨fun g hg => ?_, fun g hg => ?_, fun hn => ?_, fun h1 h2 => ?_, fun h1 => absurd (hc.1 h1) hnc⟩
  · rcases List.mem_cons.1 hg with rfl | hg
    · simp
    · have := h.lt g hg; simp; omega
  · rcases List.mem_cons.1 hg with rfl | hg
    · exact Or.inr hH
    · exact h.old g hg
  · obtain ⟨r1, r2⟩ := h.row hnc
    exact ⟨r1.alloc _, fun g hg => List.mem_cons_of_mem _ (r2 g hg)⟩
  · exact ⟨_, rfl, (blk_cell (blk_new W _) 0).trans rfl, List.mem_cons_self⟩
theorem ChainL.append {e base H0 : Nat} {v : Value} {n : Nat} {xs : List Value} {y : Value} {b c b' c' : Prop} {xb xa : Value} {O : List Nat} {W W' : World} {g cap : Nat} (h : ChainL e base H0 v n xs y b c xb xa O W) (hc' : c') (hH : H0 ≤ W.heap.size)
    (hown : W'.ownsRow base e 1 (.slice (some ⟨g, 0, none⟩) (n + 1) cap) (n + 1) (xs ++ [y])) (hs : W.heap.size ≤ W'.heap.size) (hg : v.ownBlock = some g ∨ g = W.heap.size) (hlt : g < W'.heap.size) : ChainL e base H0 v n xs y b' c' xb (.slice (some ⟨g, 0, none⟩) (n + 1) cap) (g :: O) W' := by
  refine ⟨fun k hk => ?_, fun k hk => ?_, fun hn => absurd hc' hn, fun _ hn => absurd hc' hn, fun _ => ⟨g, cap, rfl, hown, List.mem_cons_self⟩⟩
  · rcases List.mem_cons.1 hk with rfl | hk
    · exact hlt
    · have := h.lt k hk; omega
  · rcases List.mem_cons.1 hk with rfl | hk
    · rcases hg with hg | hg
      · exact Or.inl hg.symm
      · right; omega
    · exact h.old k hk
def clock_bounds.shown (lc : Int) (r : S58) : Int := if lc - r.f0 < r.f0 - lc then r.f0 - lc else lc - r.f0
def clock_bounds.lo (rate s : Int) : Int := if 0 < s then (s - 1) * 1000000 / (1000000 + rate) + 1 else 0
def clock_bounds.hi (rate s : Int) : Int := ((s + 1) * 1000000 - 1) / (1000000 - rate)
def clock_bounds.wn (rate lc : Int) (r : S58) : S56 :=
  if lc = r.f0 then ⟨r.f1.f0 - clock_bounds.hi rate (clock_bounds.shown lc r), r.f1.f1 + clock_bounds.hi rate (clock_bounds.shown lc r)⟩
  else if lc < r.f0 then ⟨r.f1.f0 - clock_bounds.hi rate (clock_bounds.shown lc r), r.f1.f1 - clock_bounds.lo rate (clock_bounds.shown lc r)⟩
  else ⟨r.f1.f0 + clock_bounds.lo rate (clock_bounds.shown lc r), r.f1.f1 + clock_bounds.hi rate (clock_bounds.shown lc r)⟩
def clock_bounds.rok (r : S58) : Bool := decide (0 ≤ r.f0 ∧ r.f0 ≤ 3600000000 ∧ 0 ≤ r.f1.f0 ∧ r.f1.f0 ≤ 3600000000 ∧ 0 ≤ r.f1.f1 ∧ r.f1.f1 ≤ 3600000000)
def clock_bounds.ok (rate lc : Int) (l : List S58) : Prop := 0 ≤ rate ∧ rate ≤ 100000 ∧ 0 ≤ lc ∧ lc ≤ 3600000000 ∧ l.length ≤ 1000 ∧ l.all clock_bounds.rok = true
instance (rate lc : Int) (l : List S58) : Decidable (clock_bounds.ok rate lc l) := by unfold clock_bounds.ok; exact inferInstance
def clock_bounds.f (rate : Int) (l : List S58) (lc : Int) : Option (Int × Int) :=
  if clock_bounds.ok rate lc l then some ((l.map fun r => (clock_bounds.wn rate lc r).f0).foldl mx 0, (l.map fun r => (clock_bounds.wn rate lc r).f1).foldl mn 3600000000) else none
theorem clock_bounds.div_le (a b : Int) (c : Int) (ha : 0 ≤ a) (hb : 0 < b) (h : a < (c + 1) * b) : 0 ≤ a / b ∧ a / b ≤ c := by
  refine ⟨Int.ediv_nonneg ha (by omega), ?_⟩
  have := Int.ediv_lt_of_lt_mul hb h
  omega
theorem clock_bounds.lo_in {rate s : Int} (h0 : 0 ≤ rate) (h1 : rate ≤ 100000) (h2 : 0 ≤ s) (h3 : s ≤ 3600000000) : 0 ≤ clock_bounds.lo rate s ∧ clock_bounds.lo rate s ≤ 3600000001 := by
  unfold clock_bounds.lo
  split
  · have := clock_bounds.div_le ((s - 1) * 1000000) (1000000 + rate) 3600000000 (by omega) (by omega) (by
      have : (3600000000 + 1) * 1000000 ≤ ((3600000000 : Int) + 1) * (1000000 + rate) := Int.mul_le_mul_of_nonneg_left (by omega) (by omega)
      omega)
    omega
  · omega
theorem clock_bounds.hi_in {rate s : Int} (h0 : 0 ≤ rate) (h1 : rate ≤ 100000) (h2 : 0 ≤ s) (h3 : s ≤ 3600000000) : 0 ≤ clock_bounds.hi rate s ∧ clock_bounds.hi rate s ≤ 4000000010 := by
  unfold clock_bounds.hi
  exact clock_bounds.div_le ((s + 1) * 1000000 - 1) (1000000 - rate) 4000000010 (by omega) (by omega) (by
    have : (4000000010 + 1) * 900000 ≤ ((4000000010 : Int) + 1) * (1000000 - rate) := Int.mul_le_mul_of_nonneg_left (by omega) (by omega)
    omega)
theorem clock_bounds.w64_ {n : Int} (h0 : -9223372036854775808 ≤ n) (h1 : n < 9223372036854775808) : wrap64 n = n := by unfold wrap64; omega
theorem clock_bounds.passed_some {rate s : Int} (h0 : 0 ≤ rate) (h1 : rate ≤ 100000) (h2 : 0 ≤ s) (h3 : s ≤ 3600000000) : clock_passed.f rate s = some (clock_bounds.lo rate s, clock_bounds.hi rate s) := by
  have l := clock_bounds.lo_in h0 h1 h2 h3
  have h := clock_bounds.hi_in h0 h1 h2 h3
  have e2 : Int.tdiv ((s + 1) * 1000000 - 1) (1000000 - rate) = clock_bounds.hi rate s := by
    rw [Int.tdiv_eq_ediv_of_nonneg (by omega)]
    rfl
  unfold clock_passed.f
  rw [clock_bounds.w64_ (n := 1000000 + rate) (by omega) (by omega), clock_bounds.w64_ (n := 1000000 - rate) (by omega) (by omega), clock_bounds.w64_ (n := s + 1) (by omega) (by omega), clock_bounds.w64_ (n := (s + 1) * 1000000) (by omega) (by omega), clock_bounds.w64_ (n := (s + 1) * 1000000 - 1) (by omega) (by omega), e2, clock_bounds.w64_ (n := clock_bounds.hi rate s) (by omega) (by omega)]
  by_cases hs : s > 0
  · have e1 : Int.tdiv ((s - 1) * 1000000) (1000000 + rate) + 1 = clock_bounds.lo rate s := by
      rw [Int.tdiv_eq_ediv_of_nonneg (by omega)]
      unfold clock_bounds.lo
      rw [if_pos hs]
    rw [if_pos hs, if_neg (by omega), if_neg (by omega), clock_bounds.w64_ (n := s - 1) (by omega) (by omega), clock_bounds.w64_ (n := (s - 1) * 1000000) (by omega) (by omega)]
    rw [clock_bounds.w64_ (n := Int.tdiv ((s - 1) * 1000000) (1000000 + rate)) (by omega) (by omega), e1, clock_bounds.w64_ (n := clock_bounds.lo rate s) (by omega) (by omega)]
  · rw [if_neg hs, if_neg (by omega)]
    have e1 : clock_bounds.lo rate s = 0 := by unfold clock_bounds.lo; rw [if_neg hs]
    rw [e1]
def clock_bounds.kept (n₀ gc gl : Nat) (W W' : World) : Prop := Below n₀ W W' ∧ W'.heap[gc]? = W.heap[gc]? ∧ W'.heap[gl]? = W.heap[gl]?
def clock_bounds.up (rate lc : Int) (l : List S58) (k : Nat) : List S56 := (l.take k).map (clock_bounds.wn rate lc)
theorem clock_bounds.up_succ {rate lc : Int} {l : List S58} {k : Nat} (h : k < l.length) : clock_bounds.up rate lc l (k + 1) = clock_bounds.up rate lc l k ++ [clock_bounds.wn rate lc (rd_T58 l (k : Int))] := by
  unfold clock_bounds.up
  rw [List.take_succ_eq_append_getElem h, List.map_append]
  congr 2
  unfold rd_T58
  rw [Int.toNat_natCast, List.getD_eq_getElem?_getD, List.getElem?_eq_getElem h]
  rfl
section
attribute [local go_sem] Oper.semAt_some
set_option maxRecDepth 100000 in
set_option maxHeartbeats 4000000 in
theorem clock_ranges_1h.stops (n : Nat) (hn : 1 ≤ n) (n₀ gc gl : Nat) (A : Option Addr) (c : Nat) (l : List S58) (rate lc : Int) (w : World) (hn₀ : n₀ ≤ w.heap.size)
    (hc : w.heap[gc]? = some (.cells #[.int .i64 rate, .slice A l.length c] 54 (0, 0))) (hl : w.heap[gl]? = some (.cells #[.int .i64 lc] 3 (0, 0))) (hok : clock_bounds.ok rate lc l) (hr : ∀ W, Below n₀ w W → Kd.C k58 W A l.length l) :
    SeqStopsK Fence.wide n Try.prog 95 #[.pointer (some ⟨gc, 0, none⟩), .pointer (some ⟨gl, 0, none⟩)] (fun x : S56 => #[.agg #[Value.int .i64 x.f0, .int .i64 x.f1]]) (clock_bounds.kept n₀ gc gl) (fun ys => ys = clock_bounds.up rate lc l l.length) (fun pre => pre <+: clock_bounds.up rate lc l l.length) l.length w := by
  intro L J Jx W hW hJ hJx hY h0
  obtain ⟨k0, k1, k2, k3, k4, k5⟩ := hok
  have hmx : l.length ≤ 1000 := k4
  have HOK := Aside0.mk k5
  have HY := Aside0.mk hY
  have HR := Aside0.mk hr
  have HC := Aside0.mk (blk_below hc hW)
  have HL := Aside0.mk (blk_below hl hW)
  have HB := Aside0.mk (hW.mono hn₀)
  have hcd : W.cell? ⟨gc, 1, none⟩ = some (.slice A l.length c) := (blk_cell HC.out 1).trans rfl
  clear hc hl hY hr k4 k5
  refine callsIn_of_wp Try.func95 rfl trivial ?_ rfl
  simp only [Try.ntmps95, List.size_toArray, List.length_cons, List.length_nil, Nat.reduceAdd, Nat.reduceSub, Array.replicate_succ, Array.replicate_zero, List.push_toArray, List.append_toArray, List.nil_append, List.cons_append]
  gi_wp2
  gi_loopw [12] (fun p wr => ∃ i : Nat, i ≤ l.length ∧ p = .int .i64 (i : Int) ∧ J (clock_bounds.up rate lc l i) wr ∧ Aside0 (Below n₀ w wr) ∧ Aside0 (wr.heap[gc]? = some (.cells #[.int .i64 rate, .slice A l.length c] 54 (0, 0))) ∧ Aside0 (wr.heap[gl]? = some (.cells #[.int .i64 lc] 3 (0, 0)))) (fun p _ => l.length - (intOf p).toNat)
  case atStart => exact ⟨0, Nat.zero_le _, rfl, h0, HB, HC, HL⟩
  case round =>
    obtain ⟨i, hi, rfl, hJi, HBr, HCr, HLr⟩ := hrel
    by_cases hlt : i < l.length
    · have hdl : decide ((i : Int) < (l.length : Int)) = true := decide_eq_true (by omega)
      have hc0 : wr.cell? ⟨gc, 0, none⟩ = some (.int .i64 rate) := (blk_cell HCr.out 0).trans rfl
      have hc1 : wr.cell? ⟨gl, 0, none⟩ = some (.int .i64 lc) := (blk_cell HLr.out 0).trans rfl
      have hgc : gc < wr.heap.size := blk_lt HCr.out
      have hgl : gl < wr.heap.size := blk_lt HLr.out
      have hp0 : (0 : Int) ≤ (i : Int) := by omega
      have hp1 : (i : Int) < (l.length : Int) := by omega
      obtain ⟨ad, e0, hx0, hx1, hx2⟩ := at_T58 (HR.out wr HBr.out) (i : Int) hp0 hp1
      cases e0
      rw [Int.toNat_natCast] at hx0 hx1 hx2
      have hrk : clock_bounds.rok (rd_T58 l (i : Int)) = true := by
        refine List.all_eq_true.1 HOK.out _ ?_
        unfold rd_T58
        rw [Int.toNat_natCast, List.getD_eq_getElem?_getD, List.getElem?_eq_getElem hlt]
        exact List.getElem_mem hlt
      have HUS := Aside0.mk (clock_bounds.up_succ (rate := rate) (lc := lc) hlt)
      generalize rd_T58 l (i : Int) = rr at hx0 hx1 hx2 hrk HUS
      obtain ⟨b1, b2, b3, b4, b5, b6⟩ := of_decide_eq_true hrk
      clear hrk
      have hs0 : 0 ≤ clock_bounds.shown lc rr ∧ clock_bounds.shown lc rr ≤ 3600000000 := by unfold clock_bounds.shown; split <;> omega
      have HP : Aside0 (clock_passed.f rate (if lc - rr.f0 < rr.f0 - lc then rr.f0 - lc else lc - rr.f0) = some (clock_bounds.lo rate (clock_bounds.shown lc rr), clock_bounds.hi rate (clock_bounds.shown lc rr))) := ⟨clock_bounds.passed_some k0 k1 hs0.1 hs0.2⟩
      have hlo := clock_bounds.lo_in k0 k1 hs0.1 hs0.2
      have hhi := clock_bounds.hi_in k0 k1 hs0.1 hs0.2
      have HW : Aside0 (clock_bounds.wn rate lc rr = if lc = rr.f0 then ⟨rr.f1.f0 - clock_bounds.hi rate (clock_bounds.shown lc rr), rr.f1.f1 + clock_bounds.hi rate (clock_bounds.shown lc rr)⟩ else if lc < rr.f0 then ⟨rr.f1.f0 - clock_bounds.hi rate (clock_bounds.shown lc rr), rr.f1.f1 - clock_bounds.lo rate (clock_bounds.shown lc rr)⟩ else ⟨rr.f1.f0 + clock_bounds.lo rate (clock_bounds.shown lc rr), rr.f1.f1 + clock_bounds.hi rate (clock_bounds.shown lc rr)⟩) := ⟨rfl⟩
      generalize clock_bounds.lo rate (clock_bounds.shown lc rr) = lo at HP hlo HW
      generalize clock_bounds.hi rate (clock_bounds.shown lc rr) = hi_ at HP hhi HW
      clear hs0
      have hlo0 := hlo.1
      have hlo1 := hlo.2
      have hhi0 := hhi.1
      have hhi1 := hhi.2
      clear hlo hhi
      rcases Int.lt_trichotomy lc rr.f0 with hcmp | hcmp | hcmp
      · have d5 : decide (lc < rr.f0) = true := decide_eq_true hcmp
        have d7 : (lc == rr.f0) = false := beq_eq_false_iff_ne.2 (by omega)
        have HQ : Aside0 (clock_passed.f rate (rr.f0 - lc) = some (lo, hi_)) := ⟨by have := HP.out; rwa [if_pos (by omega)] at this⟩
        have hwn : Aside0 (clock_bounds.up rate lc l (i + 1) = clock_bounds.up rate lc l i ++ [⟨rr.f1.f0 - hi_, rr.f1.f1 - lo⟩]) := ⟨by rw [HUS.out, HW.out, if_neg (by omega), if_pos hcmp]⟩
        clear HUS HW HP
        gi_wp2_with fail
        refine ⟨trivial, (callsIn_wide.2 (clock_passed.calls rate _ lo hi_ _ HQ.out)).mono ?_⟩
        rintro e w2 ⟨rfl, ⟨⟨nd, rfl⟩⟩⟩
        have HBW : Aside0 (Below wr.heap.size wr (((wr.alloc (.cells #[.int .i64 rr.f0, .int .i64 rr.f1.f0, .int .i64 rr.f1.f1] 58)).drewN nd).alloc (.cells #[.int .i64 (rr.f1.f0 - hi_), .int .i64 (rr.f1.f1 - lo)] 56))) := ⟨below_alloc (pw_below_drewN (below_alloc (Below.refl _ _) _) nd) _⟩
        obtain ⟨fn, tmps, assign, body, hy, hR⟩ := HY.out _ (⟨rr.f1.f0 - hi_, rr.f1.f1 - lo⟩ : S56) (((wr.alloc (.cells #[.int .i64 rr.f0, .int .i64 rr.f1.f0, .int .i64 rr.f1.f1] 58)).drewN nd).alloc (.cells #[.int .i64 (rr.f1.f0 - hi_), .int .i64 (rr.f1.f1 - lo)] 56)) (hJ _ _ _ none hJi ⟨HBW.out.os, HBW.out.tape, HBW.out.output, HBW.out.size, fun k hk _ => HBW.out.block k hk⟩ (fun r e => by cases e)) (by unfold clock_bounds.up; rw [List.length_map, List.length_take]; omega)
        dsimp only at hy
        have HRd := Aside0.mk hR
        clear hR
        gi_wp2
        refine HRd.out.mono ?_
        rintro e W3 (⟨rfl, hJ3, hk3⟩ | ⟨rfl, hJx3⟩)
        · rw [← hwn.out] at hJ3
          obtain ⟨hkb, hkc, hkl⟩ := hk3
          have HB3 : Aside0 (Below n₀ w W3) := ⟨(HBr.out.trans (HBW.out.mono (Nat.le_trans hn₀ HBr.out.size))).trans hkb⟩
          have HC3 : Aside0 (W3.heap[gc]? = some (.cells #[.int .i64 rate, .slice (some ad) l.length c] 54 (0, 0))) := ⟨hkc.trans (blk_below HCr.out HBW.out)⟩
          have HL3 : Aside0 (W3.heap[gl]? = some (.cells #[.int .i64 lc] 3 (0, 0))) := ⟨hkl.trans (blk_below HLr.out HBW.out)⟩
          clear hkb hkc hkl
          gi_wp2
          go_roundw
          case rel => exact ⟨i + 1, by omega, by go_num, hJ3, HB3, HC3, HL3⟩
          case measure => simp [intOf]; omega
        · rw [← hwn.out] at hJx3
          gi_wp2
          refine bodyPost_ret (results_none rfl _ _ _) rfl ?_
          exact ⟨⟨_, rfl⟩, .inr ⟨_, List.IsPrefix.map _ (List.take_prefix_take_left (by omega)), hJx3⟩⟩
      · subst hcmp
        have d5 : decide (rr.f0 < rr.f0) = false := decide_eq_false (by omega)
        have d7 : (rr.f0 == rr.f0) = true := by simp
        have HQ : Aside0 (clock_passed.f rate (0) = some (lo, hi_)) := ⟨by have := HP.out; rwa [if_neg (by omega), Int.sub_self] at this⟩
        have hwn : Aside0 (clock_bounds.up rate rr.f0 l (i + 1) = clock_bounds.up rate rr.f0 l i ++ [⟨rr.f1.f0 - hi_, rr.f1.f1 + hi_⟩]) := ⟨by rw [HUS.out, HW.out, if_pos rfl]⟩
        clear HUS HW HP
        gi_wp2_with fail
        refine ⟨trivial, (callsIn_wide.2 (clock_passed.calls rate _ lo hi_ _ HQ.out)).mono ?_⟩
        rintro e w2 ⟨rfl, ⟨⟨nd, rfl⟩⟩⟩
        have HBW : Aside0 (Below wr.heap.size wr (((wr.alloc (.cells #[.int .i64 rr.f0, .int .i64 rr.f1.f0, .int .i64 rr.f1.f1] 58)).drewN nd).alloc (.cells #[.int .i64 (rr.f1.f0 - hi_), .int .i64 (rr.f1.f1 + hi_)] 56))) := ⟨below_alloc (pw_below_drewN (below_alloc (Below.refl _ _) _) nd) _⟩
        obtain ⟨fn, tmps, assign, body, hy, hR⟩ := HY.out _ (⟨rr.f1.f0 - hi_, rr.f1.f1 + hi_⟩ : S56) (((wr.alloc (.cells #[.int .i64 rr.f0, .int .i64 rr.f1.f0, .int .i64 rr.f1.f1] 58)).drewN nd).alloc (.cells #[.int .i64 (rr.f1.f0 - hi_), .int .i64 (rr.f1.f1 + hi_)] 56)) (hJ _ _ _ none hJi ⟨HBW.out.os, HBW.out.tape, HBW.out.output, HBW.out.size, fun k hk _ => HBW.out.block k hk⟩ (fun r e => by cases e)) (by unfold clock_bounds.up; rw [List.length_map, List.length_take]; omega)
        dsimp only at hy
        have HRd := Aside0.mk hR
        clear hR
        gi_wp2
        refine HRd.out.mono ?_
        rintro e W3 (⟨rfl, hJ3, hk3⟩ | ⟨rfl, hJx3⟩)
        · rw [← hwn.out] at hJ3
          obtain ⟨hkb, hkc, hkl⟩ := hk3
          have HB3 : Aside0 (Below n₀ w W3) := ⟨(HBr.out.trans (HBW.out.mono (Nat.le_trans hn₀ HBr.out.size))).trans hkb⟩
          have HC3 : Aside0 (W3.heap[gc]? = some (.cells #[.int .i64 rate, .slice (some ad) l.length c] 54 (0, 0))) := ⟨hkc.trans (blk_below HCr.out HBW.out)⟩
          have HL3 : Aside0 (W3.heap[gl]? = some (.cells #[.int .i64 rr.f0] 3 (0, 0))) := ⟨hkl.trans (blk_below HLr.out HBW.out)⟩
          clear hkb hkc hkl
          gi_wp2
          go_roundw
          case rel => exact ⟨i + 1, by omega, by go_num, hJ3, HB3, HC3, HL3⟩
          case measure => simp [intOf]; omega
        · rw [← hwn.out] at hJx3
          gi_wp2
          refine bodyPost_ret (results_none rfl _ _ _) rfl ?_
          exact ⟨⟨_, rfl⟩, .inr ⟨_, List.IsPrefix.map _ (List.take_prefix_take_left (by omega)), hJx3⟩⟩
      · have d5 : decide (lc < rr.f0) = false := decide_eq_false (by omega)
        have d7 : (lc == rr.f0) = false := beq_eq_false_iff_ne.2 (by omega)
        have HQ : Aside0 (clock_passed.f rate (lc - rr.f0) = some (lo, hi_)) := ⟨by have := HP.out; rwa [if_neg (by omega)] at this⟩
        have hwn : Aside0 (clock_bounds.up rate lc l (i + 1) = clock_bounds.up rate lc l i ++ [⟨rr.f1.f0 + lo, rr.f1.f1 + hi_⟩]) := ⟨by rw [HUS.out, HW.out, if_neg (by omega), if_neg (by omega)]⟩
        clear HUS HW HP
        gi_wp2_with fail
        refine ⟨trivial, (callsIn_wide.2 (clock_passed.calls rate _ lo hi_ _ HQ.out)).mono ?_⟩
        rintro e w2 ⟨rfl, ⟨⟨nd, rfl⟩⟩⟩
        have HBW : Aside0 (Below wr.heap.size wr (((wr.alloc (.cells #[.int .i64 rr.f0, .int .i64 rr.f1.f0, .int .i64 rr.f1.f1] 58)).drewN nd).alloc (.cells #[.int .i64 (rr.f1.f0 + lo), .int .i64 (rr.f1.f1 + hi_)] 56))) := ⟨below_alloc (pw_below_drewN (below_alloc (Below.refl _ _) _) nd) _⟩
        obtain ⟨fn, tmps, assign, body, hy, hR⟩ := HY.out _ (⟨rr.f1.f0 + lo, rr.f1.f1 + hi_⟩ : S56) (((wr.alloc (.cells #[.int .i64 rr.f0, .int .i64 rr.f1.f0, .int .i64 rr.f1.f1] 58)).drewN nd).alloc (.cells #[.int .i64 (rr.f1.f0 + lo), .int .i64 (rr.f1.f1 + hi_)] 56)) (hJ _ _ _ none hJi ⟨HBW.out.os, HBW.out.tape, HBW.out.output, HBW.out.size, fun k hk _ => HBW.out.block k hk⟩ (fun r e => by cases e)) (by unfold clock_bounds.up; rw [List.length_map, List.length_take]; omega)
        dsimp only at hy
        have HRd := Aside0.mk hR
        clear hR
        gi_wp2
        refine HRd.out.mono ?_
        rintro e W3 (⟨rfl, hJ3, hk3⟩ | ⟨rfl, hJx3⟩)
        · rw [← hwn.out] at hJ3
          obtain ⟨hkb, hkc, hkl⟩ := hk3
          have HB3 : Aside0 (Below n₀ w W3) := ⟨(HBr.out.trans (HBW.out.mono (Nat.le_trans hn₀ HBr.out.size))).trans hkb⟩
          have HC3 : Aside0 (W3.heap[gc]? = some (.cells #[.int .i64 rate, .slice (some ad) l.length c] 54 (0, 0))) := ⟨hkc.trans (blk_below HCr.out HBW.out)⟩
          have HL3 : Aside0 (W3.heap[gl]? = some (.cells #[.int .i64 lc] 3 (0, 0))) := ⟨hkl.trans (blk_below HLr.out HBW.out)⟩
          clear hkb hkc hkl
          gi_wp2
          go_roundw
          case rel => exact ⟨i + 1, by omega, by go_num, hJ3, HB3, HC3, HL3⟩
          case measure => simp [intOf]; omega
        · rw [← hwn.out] at hJx3
          gi_wp2
          refine bodyPost_ret (results_none rfl _ _ _) rfl ?_
          exact ⟨⟨_, rfl⟩, .inr ⟨_, List.IsPrefix.map _ (List.take_prefix_take_left (by omega)), hJx3⟩⟩
    · have hdl : decide ((i : Int) < (l.length : Int)) = false := decide_eq_false (by omega)
      obtain rfl : i = l.length := by omega
      gi_wp2
      go_end0
      exact ⟨⟨_, rfl⟩, .inl ⟨_, rfl, hJi⟩⟩
end
structure FrL (W0 : World) (S : Nat → Prop) (W : World) : Prop where
  os : W.os = W0.os
  tape : W.tape = W0.tape
  output : W.output = W0.output
  size : W0.heap.size ≤ W.heap.size
  blk : ∀ g, g < W0.heap.size → ¬ S g → W.heap[g]? = W0.heap[g]?
theorem FrL.alloc {W0 W : World} {S : Nat → Prop} (h : FrL W0 S W) (o : Obj) : FrL W0 S (W.alloc o) :=
  ⟨h.os, h.tape, h.output, by have := h.size; simp; omega, fun g hg hs => (Below.heap_alloc W o g (Nat.lt_of_lt_of_le hg h.size)).trans (h.blk g hg hs)⟩
theorem FrL.grown {W0 W W' : World} {S : Nat → Prop} (h : FrL W0 S W) {row : Option Nat} (hg : W.grownBy W' row) (hr : ∀ g, some g = row → g < W0.heap.size → S g) : FrL W0 S W' :=
  ⟨hg.os.trans h.os, hg.tape.trans h.tape, hg.output.trans h.output, Nat.le_trans h.size hg.size, fun g h1 h2 => (hg.block g (Nat.lt_of_lt_of_le h1 h.size) (fun e => h2 (hr g e h1))).trans (h.blk g h1 h2)⟩
theorem FrL.set {W0 W : World} {S : Nat → Prop} (h : FrL W0 S W) (b : Nat) (u : Value) (hb : S b) : FrL W0 S (W.setCell ⟨b, 0, none⟩ u) :=
  h.grown (grownBy_setCell' W b u) (fun g e _ => by cases e; exact hb)
section
variable {F : Fence} {n : Nat} {P : Program} {ops : Array Oper} {Q : Exit → Act → World → Prop}
theorem wpOpIn_run {i : Nat} {o : Oper} {v : Value} {K : Act → World → Prop} {a : Act} {w w' : World} (hF : ∀ f, F.fn f) (hnd : noDefer_ o = true) (hi : ops[i]? = some o) (hw : Region.wanted o (yielded ops a.tmps) = true) (hv : (execOp a.eval o).run P w = .ok (.value v) w') (h : K (a.put o.dst v) w') : wpOpIn F n P ops Q i K a w := by
  refine wpOpIn_go hi hw ?_
  unfold Oper.wpIn
  rw [Oper.semAt_plain F _ _ (fun c e => by unfold noDefer_ at hnd; rw [e] at hnd; cases hnd), hv]
  exact ⟨fun f _ => hF f, h⟩
theorem wpOpIn_skip {i : Nat} {o : Oper} {K : Act → World → Prop} {a : Act} {w w' : World} (hF : ∀ f, F.fn f) (hnd : noDefer_ o = true) (hi : ops[i]? = some o) (hw : Region.wanted o (yielded ops a.tmps) = true) (hv : (execOp a.eval o).run P w = .ok .skip w') (h : K (a.put o.dst undef) w') : wpOpIn F n P ops Q i K a w := by
  refine wpOpIn_go hi hw ?_
  unfold Oper.wpIn
  rw [Oper.semAt_plain F _ _ (fun c e => by unfold noDefer_ at hnd; rw [e] at hnd; cases hnd), hv]
  exact ⟨fun f _ => hF f, h⟩
end
def clock_bounds.SS (B1 B2 : Nat) (v1 v2 : Value) (g : Nat) : Prop := g = B1 ∨ g = B2 ∨ some g = v1.ownBlock ∨ some g = v2.ownBlock
def clock_bounds.INV (ops : Array Oper) (A : Value → Value → Value → Value → Value → Value → Value → Value → Value → Value → Act) (base B1 B2 Bw : Nat) (v1 v2 : Value) (n : Nat) (xs1 xs2 : List Value) (y1 y2 : Int) (W0 : World) (l : Array Bool) (a : Act) (W : World) : Prop :=
  ∃ x15 x16 x17 x18 x19 x20 x21 x22 x23 x24 OA OB, a = A x15 x16 x17 x18 x19 x20 x21 x22 x23 x24 ∧ l.size = ops.size ∧ ClosedL .any ops l ∧
    (LL l 0 → x15 = v1) ∧ (LL l 1 → x16 = .pointer (some ⟨Bw, 0, none⟩)) ∧ (LL l 2 → x17 = .int .i64 y1) ∧ (LL l 5 → x20 = v2) ∧ (LL l 6 → x21 = .pointer (some ⟨Bw, 1, none⟩)) ∧ (LL l 7 → x22 = .int .i64 y2) ∧
    ChainL 3 base W0.heap.size v1 n xs1 (.int .i64 y1) (LL l 3) (LL l 4) x18 x19 OA W ∧ ChainL 3 base W0.heap.size v2 n xs2 (.int .i64 y2) (LL l 8) (LL l 9) x23 x24 OB W ∧ (∀ g, g ∈ OA → g ∉ OB) ∧
    (¬ LL l 10 → Boxed W B1 22 v1) ∧ (LL l 10 → Boxed W B1 22 x19) ∧ (¬ LL l 11 → Boxed W B2 22 v2) ∧ (LL l 11 → Boxed W B2 22 x24) ∧
    W.heap[Bw]? = some (.cells #[.int .i64 y1, .int .i64 y2] 56 (0, 0)) ∧ FrL W0 (clock_bounds.SS B1 B2 v1 v2) W
section
set_option maxRecDepth 100000 in
set_option maxHeartbeats 8000000 in
theorem clock_bounds.step {F : Fence} {m : Nat} {Q : Exit → Act → World → Prop} {ops : Array Oper} {A : Value → Value → Value → Value → Value → Value → Value → Value → Value → Value → Act} (hF : ∀ f, F.fn f) (p0 p1 p2 p3 p4 p5 p9 p10 p11 p12 p13 p14 p25 p26 p27 p28 : Value) (base B1 B2 Bw : Nat) (v1 v2 : Value) (n : Nat) (xs1 xs2 : List Value) (y1 y2 : Int) (W0 : World)
    (hops : ops = #[{ dst := some 15, op := Op.load 22 (Operand.tmp 6), type := 22, pos := "clock.go:84", after := #[], guard := none }, { dst := some 16, op := Op.fieldAddr 56 (Operand.tmp 8) 0, type := 0, pos := "clock.go:84", after := #[], guard := none }, { dst := some 17, op := Op.load 3 (Operand.tmp 16), type := 3, pos := "clock.go:84", after := #[{ on := 1, ground := Ground.data }], guard := none }, { dst := some 18, op := Op.buildSlice 22 1 #[(0, Operand.tmp 17)], type := 22, pos := "clock.go:84", after := #[{ on := 2, ground := Ground.data }], guard := none }, { dst := some 19, op := Op.call { callee := Callee.builtin Builtin.append, args := #[Operand.tmp 15, Operand.tmp 18], argTypes := #[22, 22] }, type := 22, pos := "clock.go:84", after := #[{ on := 0, ground := Ground.data }, { on := 3, ground := Ground.data }], guard := none }, { dst := some 20, op := Op.load 22 (Operand.tmp 7), type := 22, pos := "clock.go:84", after := #[], guard := none }, { dst := some 21, op := Op.fieldAddr 56 (Operand.tmp 8) 1, type := 0, pos := "clock.go:84", after := #[], guard := none }, { dst := some 22, op := Op.load 3 (Operand.tmp 21), type := 3, pos := "clock.go:84", after := #[{ on := 6, ground := Ground.data }], guard := none }, { dst := some 23, op := Op.buildSlice 22 1 #[(0, Operand.tmp 22)], type := 22, pos := "clock.go:84", after := #[{ on := 7, ground := Ground.data }], guard := none }, { dst := some 24, op := Op.call { callee := Callee.builtin Builtin.append, args := #[Operand.tmp 20, Operand.tmp 23], argTypes := #[22, 22] }, type := 22, pos := "clock.go:84", after := #[{ on := 5, ground := Ground.data }, { on := 8, ground := Ground.data }, { on := 4, ground := Ground.chain }], guard := none }, { dst := none, op := Op.store 22 (Operand.tmp 6) (Operand.tmp 19), type := 0, pos := "clock.go:84", after := #[{ on := 4, ground := Ground.data }, { on := 9, ground := Ground.chain }, { on := 0, ground := Ground.phase }, { on := 1, ground := Ground.phase }, { on := 2, ground := Ground.phase }, { on := 3, ground := Ground.phase }, { on := 4, ground := Ground.phase }, { on := 5, ground := Ground.textOnly Departure.inlinedCapture }, { on := 6, ground := Ground.textOnly Departure.lateStores }, { on := 7, ground := Ground.textOnly Departure.lateStores }, { on := 8, ground := Ground.textOnly Departure.inlinedCapture }, { on := 9, ground := Ground.textOnly Departure.lateStoresUnsure }], guard := none }, { dst := none, op := Op.store 22 (Operand.tmp 7) (Operand.tmp 24), type := 0, pos := "clock.go:84", after := #[{ on := 9, ground := Ground.data }, { on := 10, ground := Ground.chain }, { on := 0, ground := Ground.phase }, { on := 1, ground := Ground.phase }, { on := 2, ground := Ground.phase }, { on := 3, ground := Ground.phase }, { on := 4, ground := Ground.phase }, { on := 5, ground := Ground.phase }, { on := 6, ground := Ground.phase }, { on := 7, ground := Ground.phase }, { on := 8, ground := Ground.phase }, { on := 9, ground := Ground.phase }, { on := 10, ground := Ground.phase }], guard := none }])
    (hA0 : A = fun x15 x16 x17 x18 x19 x20 x21 x22 x23 x24 => { tmps := #[p0, p1, p2, p3, p4, p5, .pointer (some ⟨B1, 0, none⟩), .pointer (some ⟨B2, 0, none⟩), .pointer (some ⟨Bw, 0, none⟩), p9, p10, p11, p12, p13, p14, x15, x16, x17, x18, x19, x20, x21, x22, x23, x24, p25, p26, p27, p28], defers := [] })
    (hbase : base ≤ W0.heap.size) (hn : n ≤ 2000) (q1 : B1 < W0.heap.size) (q2 : B2 < W0.heap.size) (q3 : Bw < W0.heap.size) (q4 : B1 ≠ B2) (q5 : B1 ≠ Bw) (q6 : B2 ≠ Bw) (r1 : some B1 ≠ v1.ownBlock) (r2 : some B1 ≠ v2.ownBlock) (r3 : some B2 ≠ v1.ownBlock) (r4 : some B2 ≠ v2.ownBlock) (r5 : some Bw ≠ v1.ownBlock) (r6 : some Bw ≠ v2.ownBlock) :
    ∀ i l a W, i < ops.size → clock_bounds.INV ops A base B1 B2 Bw v1 v2 n xs1 xs2 y1 y2 W0 l a W → i ∈ Region.ready .any ops l → wpOpIn F m Try.prog ops Q i (fun a' w' => clock_bounds.INV ops A base B1 B2 Bw v1 v2 n xs1 xs2 y1 y2 W0 (l.setIfInBounds i true) a' w') a W := by
  obtain ⟨i0, hi, hz0, hz1, hz2⟩ := info_parts info3
  subst hops
  subst hA0
  intro i l a W hilt hinv hr
  obtain ⟨x15, x16, x17, x18, x19, x20, x21, x22, x23, x24, OA, OB, rfl, hsz, hcl, h15, h16, h17, h20, h21, h22, hA, hB, hdis, b1n, b1y, b2n, b2y, hbw, hfr⟩ := hinv
  have hnr := ready_not hr
  have hWs := hfr.size
  have nx : ∀ j, needsL .any _ _ j i = true → ¬ LL l j := fun j hj h => hnr (closed_dep hcl h hj)
  have dp : ∀ j, needsL .any _ _ i j = true → LL l j := fun j hj => ready_dep hcl hr hj
  have hcases : i = 0 ∨ i = 1 ∨ i = 2 ∨ i = 3 ∨ i = 4 ∨ i = 5 ∨ i = 6 ∨ i = 7 ∨ i = 8 ∨ i = 9 ∨ i = 10 ∨ i = 11 := by
    have : i < 12 := hilt
    omega
  have nA : ∀ g, g ∈ OA → g ≠ B1 ∧ g ≠ B2 ∧ g ≠ Bw := fun g hg => by
    rcases hA.old g hg with h | h
    · exact ⟨fun e => r1 (by rw [← e]; exact h), fun e => r3 (by rw [← e]; exact h), fun e => r5 (by rw [← e]; exact h)⟩
    · omega
  have nB : ∀ g, g ∈ OB → g ≠ B1 ∧ g ≠ B2 ∧ g ≠ Bw := fun g hg => by
    rcases hB.old g hg with h | h
    · exact ⟨fun e => r2 (by rw [← e]; exact h), fun e => r4 (by rw [← e]; exact h), fun e => r6 (by rw [← e]; exact h)⟩
    · omega
  rcases hcases with rfl | rfl | rfl | rfl | rfl | rfl | rfl | rfl | rfl | rfl | rfl | rfl
  · have hc := (b1n (nx 10 (by kernel_rfl))).cell
    refine wpOpIn_run (v := v1) (w' := W) hF rfl rfl rfl (by go_simp) ?_
    exact ⟨_, _, _, _, _, _, _, _, _, _, OA, OB, rfl, by simp [hsz], closedL_set hcl hr, (fun _ => rfl), (fun h => h16 ((LL_ne (show 0 ≠ 1 by decide)).1 h)), (fun h => h17 ((LL_ne (show 0 ≠ 2 by decide)).1 h)), (fun h => h20 ((LL_ne (show 0 ≠ 5 by decide)).1 h)), (fun h => h21 ((LL_ne (show 0 ≠ 6 by decide)).1 h)), (fun h => h22 ((LL_ne (show 0 ≠ 7 by decide)).1 h)), (hA.move (LL_ne (show 0 ≠ 3 by decide)) (LL_ne (show 0 ≠ 4 by decide)) (fun _ => rfl) (fun _ => rfl) (Nat.le_refl _) (fun _ _ => rfl)), (hB.move (LL_ne (show 0 ≠ 8 by decide)) (LL_ne (show 0 ≠ 9 by decide)) (fun _ => rfl) (fun _ => rfl) (Nat.le_refl _) (fun _ _ => rfl)), (hdis), (fun h => (b1n (fun h2 => h ((LL_ne (show 0 ≠ 10 by decide)).2 h2)))), (fun h => (b1y ((LL_ne (show 0 ≠ 10 by decide)).1 h))), (fun h => (b2n (fun h2 => h ((LL_ne (show 0 ≠ 11 by decide)).2 h2)))), (fun h => (b2y ((LL_ne (show 0 ≠ 11 by decide)).1 h))), (hbw), (hfr)⟩
  · skip
    refine wpOpIn_run (v := .pointer (some ⟨Bw, 0, none⟩)) (w' := W) hF rfl rfl rfl (by go_simp) ?_
    exact ⟨_, _, _, _, _, _, _, _, _, _, OA, OB, rfl, by simp [hsz], closedL_set hcl hr, (fun h => h15 ((LL_ne (show 1 ≠ 0 by decide)).1 h)), (fun _ => rfl), (fun h => h17 ((LL_ne (show 1 ≠ 2 by decide)).1 h)), (fun h => h20 ((LL_ne (show 1 ≠ 5 by decide)).1 h)), (fun h => h21 ((LL_ne (show 1 ≠ 6 by decide)).1 h)), (fun h => h22 ((LL_ne (show 1 ≠ 7 by decide)).1 h)), (hA.move (LL_ne (show 1 ≠ 3 by decide)) (LL_ne (show 1 ≠ 4 by decide)) (fun _ => rfl) (fun _ => rfl) (Nat.le_refl _) (fun _ _ => rfl)), (hB.move (LL_ne (show 1 ≠ 8 by decide)) (LL_ne (show 1 ≠ 9 by decide)) (fun _ => rfl) (fun _ => rfl) (Nat.le_refl _) (fun _ _ => rfl)), (hdis), (fun h => (b1n (fun h2 => h ((LL_ne (show 1 ≠ 10 by decide)).2 h2)))), (fun h => (b1y ((LL_ne (show 1 ≠ 10 by decide)).1 h))), (fun h => (b2n (fun h2 => h ((LL_ne (show 1 ≠ 11 by decide)).2 h2)))), (fun h => (b2y ((LL_ne (show 1 ≠ 11 by decide)).1 h))), (hbw), (hfr)⟩
  · obtain rfl := h16 (dp 1 (by kernel_rfl))
    have hc : W.cell? ⟨Bw, 0, none⟩ = some (.int .i64 y1) := (blk_cell hbw 0).trans rfl
    refine wpOpIn_run (v := .int .i64 y1) (w' := W) hF rfl rfl rfl (by go_simp) ?_
    exact ⟨_, _, _, _, _, _, _, _, _, _, OA, OB, rfl, by simp [hsz], closedL_set hcl hr, (fun h => h15 ((LL_ne (show 2 ≠ 0 by decide)).1 h)), (fun h => h16 ((LL_ne (show 2 ≠ 1 by decide)).1 h)), (fun _ => rfl), (fun h => h20 ((LL_ne (show 2 ≠ 5 by decide)).1 h)), (fun h => h21 ((LL_ne (show 2 ≠ 6 by decide)).1 h)), (fun h => h22 ((LL_ne (show 2 ≠ 7 by decide)).1 h)), (hA.move (LL_ne (show 2 ≠ 3 by decide)) (LL_ne (show 2 ≠ 4 by decide)) (fun _ => rfl) (fun _ => rfl) (Nat.le_refl _) (fun _ _ => rfl)), (hB.move (LL_ne (show 2 ≠ 8 by decide)) (LL_ne (show 2 ≠ 9 by decide)) (fun _ => rfl) (fun _ => rfl) (Nat.le_refl _) (fun _ _ => rfl)), (hdis), (fun h => (b1n (fun h2 => h ((LL_ne (show 2 ≠ 10 by decide)).2 h2)))), (fun h => (b1y ((LL_ne (show 2 ≠ 10 by decide)).1 h))), (fun h => (b2n (fun h2 => h ((LL_ne (show 2 ≠ 11 by decide)).2 h2)))), (fun h => (b2y ((LL_ne (show 2 ≠ 11 by decide)).1 h))), (hbw), (hfr)⟩
  · obtain rfl := h17 (dp 2 (by kernel_rfl))
    refine wpOpIn_run (v := .slice (some ⟨W.heap.size, 0, none⟩) 1 1) (w' := W.alloc (.cells #[.int .i64 y1] 3)) hF rfl rfl rfl (by go_simp) ?_
    exact ⟨_, _, _, _, _, _, _, _, _, _, (W.heap.size :: OA), OB, rfl, by simp [hsz], closedL_set hcl hr, (fun h => h15 ((LL_ne (show 3 ≠ 0 by decide)).1 h)), (fun h => h16 ((LL_ne (show 3 ≠ 1 by decide)).1 h)), (fun h => h17 ((LL_ne (show 3 ≠ 2 by decide)).1 h)), (fun h => h20 ((LL_ne (show 3 ≠ 5 by decide)).1 h)), (fun h => h21 ((LL_ne (show 3 ≠ 6 by decide)).1 h)), (fun h => h22 ((LL_ne (show 3 ≠ 7 by decide)).1 h)), (hA.build (LL_ne (show 3 ≠ 4 by decide)) (nx 4 (by kernel_rfl)) hWs), (hB.move (LL_ne (show 3 ≠ 8 by decide)) (LL_ne (show 3 ≠ 9 by decide)) (fun _ => rfl) (fun _ => rfl) (by simp) (fun g hg => Below.heap_alloc W _ g (hB.lt g hg))), (fun g hg => (List.mem_cons.1 hg).elim (fun e h2 => by have := hB.lt g h2; omega) (fun h => hdis g h)), (fun h => Boxed.alloc (b1n (fun h2 => h ((LL_ne (show 3 ≠ 10 by decide)).2 h2))) _), (fun h => Boxed.alloc (b1y ((LL_ne (show 3 ≠ 10 by decide)).1 h)) _), (fun h => Boxed.alloc (b2n (fun h2 => h ((LL_ne (show 3 ≠ 11 by decide)).2 h2))) _), (fun h => Boxed.alloc (b2y ((LL_ne (show 3 ≠ 11 by decide)).1 h)) _), (blk_alloc hbw _), (hfr.alloc _)⟩
  · have e1 := h15 (dp 0 (by kernel_rfl))
    have e2 := hA.lit (dp 3 (by kernel_rfl)) hnr
    obtain ⟨p, rfl, hpc, hpO⟩ := e2
    subst e1
    obtain ⟨hrow, hrO⟩ := hA.row hnr
    refine wpOpIn_go rfl rfl (opIn_append hF (.tmp 15) (.tmp 18) 22 rfl base 3 i0 (.int .i64 0) 1 8 Try.underlying22 hi hz0 hz1 hz2 rfl (by decide) _ n xs1 rfl hrow ⟨p, 0, none⟩ 1 1 [.int .i64 y1] rfl rfl ?_ (by simp [Value.oneCell']) (by decide) (by unfold maxLen; omega) (by omega) (by omega) ?_)
    · intro j u hj
      obtain ⟨hj1, rfl⟩ := List.getElem?_eq_some_iff.1 hj
      have hj0 : j = 0 := by simp at hj1; exact hj1
      subst hj0
      exact hpc
    · intro g cap W' hown hgrow hat hlt
      have hoth : ∀ k, k ∈ OB → W'.heap[k]? = W.heap[k]? := fun k hk => hgrow.block k (hB.lt k hk) (fun e => hdis k (hrO k e.symm) hk)
      exact ⟨_, _, _, _, _, _, _, _, _, _, (g :: OA), OB, rfl, by simp [hsz], closedL_set hcl hr, (fun h => h15 ((LL_ne (show 4 ≠ 0 by decide)).1 h)), (fun h => h16 ((LL_ne (show 4 ≠ 1 by decide)).1 h)), (fun h => h17 ((LL_ne (show 4 ≠ 2 by decide)).1 h)), (fun h => h20 ((LL_ne (show 4 ≠ 5 by decide)).1 h)), (fun h => h21 ((LL_ne (show 4 ≠ 6 by decide)).1 h)), (fun h => h22 ((LL_ne (show 4 ≠ 7 by decide)).1 h)), (hA.append (LL_self (show 4 < l.size by rw [hsz]; decide)) hWs hown hgrow.size hat hlt), (hB.move (LL_ne (show 4 ≠ 8 by decide)) (LL_ne (show 4 ≠ 9 by decide)) (fun _ => rfl) (fun _ => rfl) hgrow.size hoth), (fun k hk => (List.mem_cons.1 hk).elim (fun e h2 => by rcases hat with h3 | h3; exact hdis g (hrO g h3) (e ▸ h2); have := hB.lt k h2; omega) (fun h => hdis k h)), (fun h => (b1n (fun h2 => h ((LL_ne (show 4 ≠ 10 by decide)).2 h2))).kept hgrow r1), (fun h => absurd ((LL_ne (show 4 ≠ 10 by decide)).1 h) (nx 10 (by kernel_rfl))), (fun h => (b2n (fun h2 => h ((LL_ne (show 4 ≠ 11 by decide)).2 h2))).kept hgrow r3), (fun h => (b2y ((LL_ne (show 4 ≠ 11 by decide)).1 h)).kept hgrow r3), ((hgrow.block Bw (by omega) r5).trans hbw), (hfr.grown hgrow (fun k e _ => Or.inr (Or.inr (Or.inl e))))⟩
  · have hc := (b2n (nx 11 (by kernel_rfl))).cell
    refine wpOpIn_run (v := v2) (w' := W) hF rfl rfl rfl (by go_simp) ?_
    exact ⟨_, _, _, _, _, _, _, _, _, _, OA, OB, rfl, by simp [hsz], closedL_set hcl hr, (fun h => h15 ((LL_ne (show 5 ≠ 0 by decide)).1 h)), (fun h => h16 ((LL_ne (show 5 ≠ 1 by decide)).1 h)), (fun h => h17 ((LL_ne (show 5 ≠ 2 by decide)).1 h)), (fun _ => rfl), (fun h => h21 ((LL_ne (show 5 ≠ 6 by decide)).1 h)), (fun h => h22 ((LL_ne (show 5 ≠ 7 by decide)).1 h)), (hA.move (LL_ne (show 5 ≠ 3 by decide)) (LL_ne (show 5 ≠ 4 by decide)) (fun _ => rfl) (fun _ => rfl) (Nat.le_refl _) (fun _ _ => rfl)), (hB.move (LL_ne (show 5 ≠ 8 by decide)) (LL_ne (show 5 ≠ 9 by decide)) (fun _ => rfl) (fun _ => rfl) (Nat.le_refl _) (fun _ _ => rfl)), (hdis), (fun h => (b1n (fun h2 => h ((LL_ne (show 5 ≠ 10 by decide)).2 h2)))), (fun h => (b1y ((LL_ne (show 5 ≠ 10 by decide)).1 h))), (fun h => (b2n (fun h2 => h ((LL_ne (show 5 ≠ 11 by decide)).2 h2)))), (fun h => (b2y ((LL_ne (show 5 ≠ 11 by decide)).1 h))), (hbw), (hfr)⟩
  · skip
    refine wpOpIn_run (v := .pointer (some ⟨Bw, 1, none⟩)) (w' := W) hF rfl rfl rfl (by go_simp) ?_
    exact ⟨_, _, _, _, _, _, _, _, _, _, OA, OB, rfl, by simp [hsz], closedL_set hcl hr, (fun h => h15 ((LL_ne (show 6 ≠ 0 by decide)).1 h)), (fun h => h16 ((LL_ne (show 6 ≠ 1 by decide)).1 h)), (fun h => h17 ((LL_ne (show 6 ≠ 2 by decide)).1 h)), (fun h => h20 ((LL_ne (show 6 ≠ 5 by decide)).1 h)), (fun _ => rfl), (fun h => h22 ((LL_ne (show 6 ≠ 7 by decide)).1 h)), (hA.move (LL_ne (show 6 ≠ 3 by decide)) (LL_ne (show 6 ≠ 4 by decide)) (fun _ => rfl) (fun _ => rfl) (Nat.le_refl _) (fun _ _ => rfl)), (hB.move (LL_ne (show 6 ≠ 8 by decide)) (LL_ne (show 6 ≠ 9 by decide)) (fun _ => rfl) (fun _ => rfl) (Nat.le_refl _) (fun _ _ => rfl)), (hdis), (fun h => (b1n (fun h2 => h ((LL_ne (show 6 ≠ 10 by decide)).2 h2)))), (fun h => (b1y ((LL_ne (show 6 ≠ 10 by decide)).1 h))), (fun h => (b2n (fun h2 => h ((LL_ne (show 6 ≠ 11 by decide)).2 h2)))), (fun h => (b2y ((LL_ne (show 6 ≠ 11 by decide)).1 h))), (hbw), (hfr)⟩
  · obtain rfl := h21 (dp 6 (by kernel_rfl))
    have hc : W.cell? ⟨Bw, 1, none⟩ = some (.int .i64 y2) := (blk_cell hbw 1).trans rfl
    refine wpOpIn_run (v := .int .i64 y2) (w' := W) hF rfl rfl rfl (by go_simp) ?_
    exact ⟨_, _, _, _, _, _, _, _, _, _, OA, OB, rfl, by simp [hsz], closedL_set hcl hr, (fun h => h15 ((LL_ne (show 7 ≠ 0 by decide)).1 h)), (fun h => h16 ((LL_ne (show 7 ≠ 1 by decide)).1 h)), (fun h => h17 ((LL_ne (show 7 ≠ 2 by decide)).1 h)), (fun h => h20 ((LL_ne (show 7 ≠ 5 by decide)).1 h)), (fun h => h21 ((LL_ne (show 7 ≠ 6 by decide)).1 h)), (fun _ => rfl), (hA.move (LL_ne (show 7 ≠ 3 by decide)) (LL_ne (show 7 ≠ 4 by decide)) (fun _ => rfl) (fun _ => rfl) (Nat.le_refl _) (fun _ _ => rfl)), (hB.move (LL_ne (show 7 ≠ 8 by decide)) (LL_ne (show 7 ≠ 9 by decide)) (fun _ => rfl) (fun _ => rfl) (Nat.le_refl _) (fun _ _ => rfl)), (hdis), (fun h => (b1n (fun h2 => h ((LL_ne (show 7 ≠ 10 by decide)).2 h2)))), (fun h => (b1y ((LL_ne (show 7 ≠ 10 by decide)).1 h))), (fun h => (b2n (fun h2 => h ((LL_ne (show 7 ≠ 11 by decide)).2 h2)))), (fun h => (b2y ((LL_ne (show 7 ≠ 11 by decide)).1 h))), (hbw), (hfr)⟩
  · obtain rfl := h22 (dp 7 (by kernel_rfl))
    refine wpOpIn_run (v := .slice (some ⟨W.heap.size, 0, none⟩) 1 1) (w' := W.alloc (.cells #[.int .i64 y2] 3)) hF rfl rfl rfl (by go_simp) ?_
    exact ⟨_, _, _, _, _, _, _, _, _, _, OA, (W.heap.size :: OB), rfl, by simp [hsz], closedL_set hcl hr, (fun h => h15 ((LL_ne (show 8 ≠ 0 by decide)).1 h)), (fun h => h16 ((LL_ne (show 8 ≠ 1 by decide)).1 h)), (fun h => h17 ((LL_ne (show 8 ≠ 2 by decide)).1 h)), (fun h => h20 ((LL_ne (show 8 ≠ 5 by decide)).1 h)), (fun h => h21 ((LL_ne (show 8 ≠ 6 by decide)).1 h)), (fun h => h22 ((LL_ne (show 8 ≠ 7 by decide)).1 h)), (hA.move (LL_ne (show 8 ≠ 3 by decide)) (LL_ne (show 8 ≠ 4 by decide)) (fun _ => rfl) (fun _ => rfl) (by simp) (fun g hg => Below.heap_alloc W _ g (hA.lt g hg))), (hB.build (LL_ne (show 8 ≠ 9 by decide)) (nx 9 (by kernel_rfl)) hWs), (fun g hg h2 => (List.mem_cons.1 h2).elim (fun e => by have := hA.lt g hg; omega) (fun h => hdis g hg h)), (fun h => Boxed.alloc (b1n (fun h2 => h ((LL_ne (show 8 ≠ 10 by decide)).2 h2))) _), (fun h => Boxed.alloc (b1y ((LL_ne (show 8 ≠ 10 by decide)).1 h)) _), (fun h => Boxed.alloc (b2n (fun h2 => h ((LL_ne (show 8 ≠ 11 by decide)).2 h2))) _), (fun h => Boxed.alloc (b2y ((LL_ne (show 8 ≠ 11 by decide)).1 h)) _), (blk_alloc hbw _), (hfr.alloc _)⟩
  · have e1 := h20 (dp 5 (by kernel_rfl))
    have e2 := hB.lit (dp 8 (by kernel_rfl)) hnr
    obtain ⟨p, rfl, hpc, hpO⟩ := e2
    subst e1
    obtain ⟨hrow, hrO⟩ := hB.row hnr
    refine wpOpIn_go rfl rfl (opIn_append hF (.tmp 20) (.tmp 23) 22 rfl base 3 i0 (.int .i64 0) 1 8 Try.underlying22 hi hz0 hz1 hz2 rfl (by decide) _ n xs2 rfl hrow ⟨p, 0, none⟩ 1 1 [.int .i64 y2] rfl rfl ?_ (by simp [Value.oneCell']) (by decide) (by unfold maxLen; omega) (by omega) (by omega) ?_)
    · intro j u hj
      obtain ⟨hj1, rfl⟩ := List.getElem?_eq_some_iff.1 hj
      have hj0 : j = 0 := by simp at hj1; exact hj1
      subst hj0
      exact hpc
    · intro g cap W' hown hgrow hat hlt
      have hoth : ∀ k, k ∈ OA → W'.heap[k]? = W.heap[k]? := fun k hk => hgrow.block k (hA.lt k hk) (fun e => hdis k hk (hrO k e.symm))
      exact ⟨_, _, _, _, _, _, _, _, _, _, OA, (g :: OB), rfl, by simp [hsz], closedL_set hcl hr, (fun h => h15 ((LL_ne (show 9 ≠ 0 by decide)).1 h)), (fun h => h16 ((LL_ne (show 9 ≠ 1 by decide)).1 h)), (fun h => h17 ((LL_ne (show 9 ≠ 2 by decide)).1 h)), (fun h => h20 ((LL_ne (show 9 ≠ 5 by decide)).1 h)), (fun h => h21 ((LL_ne (show 9 ≠ 6 by decide)).1 h)), (fun h => h22 ((LL_ne (show 9 ≠ 7 by decide)).1 h)), (hA.move (LL_ne (show 9 ≠ 3 by decide)) (LL_ne (show 9 ≠ 4 by decide)) (fun _ => rfl) (fun _ => rfl) hgrow.size hoth), (hB.append (LL_self (show 9 < l.size by rw [hsz]; decide)) hWs hown hgrow.size hat hlt), (fun k hk h2 => (List.mem_cons.1 h2).elim (fun e => by rcases hat with h3 | h3; exact hdis g (e ▸ hk) (hrO g h3); have := hA.lt k hk; omega) (fun h => hdis k hk h)), (fun h => (b1n (fun h2 => h ((LL_ne (show 9 ≠ 10 by decide)).2 h2))).kept hgrow r2), (fun h => (b1y ((LL_ne (show 9 ≠ 10 by decide)).1 h)).kept hgrow r2), (fun h => (b2n (fun h2 => h ((LL_ne (show 9 ≠ 11 by decide)).2 h2))).kept hgrow r4), (fun h => absurd ((LL_ne (show 9 ≠ 11 by decide)).1 h) (nx 11 (by kernel_rfl))), ((hgrow.block Bw (by omega) r6).trans hbw), (hfr.grown hgrow (fun k e _ => Or.inr (Or.inr (Or.inr e))))⟩
  · obtain ⟨g, cap, e1, hown, hgO⟩ := hA.res (dp 4 (by kernel_rfl))
    have hbx := b1n hnr
    have hfz := hbx.frozen
    have hcx := hbx.cell
    subst e1
    refine wpOpIn_skip (w' := W.setCell ⟨B1, 0, none⟩ (.slice (some ⟨g, 0, none⟩) (n + 1) cap)) hF rfl rfl rfl (by go_simp) ?_
    exact ⟨_, _, _, _, _, _, _, _, _, _, OA, OB, rfl, by simp [hsz], closedL_set hcl hr, (fun h => h15 ((LL_ne (show 10 ≠ 0 by decide)).1 h)), (fun h => h16 ((LL_ne (show 10 ≠ 1 by decide)).1 h)), (fun h => h17 ((LL_ne (show 10 ≠ 2 by decide)).1 h)), (fun h => h20 ((LL_ne (show 10 ≠ 5 by decide)).1 h)), (fun h => h21 ((LL_ne (show 10 ≠ 6 by decide)).1 h)), (fun h => h22 ((LL_ne (show 10 ≠ 7 by decide)).1 h)), (hA.move (LL_ne (show 10 ≠ 3 by decide)) (LL_ne (show 10 ≠ 4 by decide)) (fun _ => rfl) (fun _ => rfl) (by simp [World.setCell]) (fun k hk => Below.heap_setCell W ⟨B1, 0, none⟩ _ k (nA k hk).1)), (hB.move (LL_ne (show 10 ≠ 8 by decide)) (LL_ne (show 10 ≠ 9 by decide)) (fun _ => rfl) (fun _ => rfl) (by simp [World.setCell]) (fun k hk => Below.heap_setCell W ⟨B1, 0, none⟩ _ k (nB k hk).1)), (hdis), (fun h => absurd (LL_self (show 10 < l.size by rw [hsz]; decide)) h), (fun _ => hbx.set _), (fun h => (Below.heap_setCell W ⟨B1, 0, none⟩ _ B2 (Ne.symm q4)).trans (b2n (fun h2 => h ((LL_ne (show 10 ≠ 11 by decide)).2 h2)))), (fun h => (Below.heap_setCell W ⟨B1, 0, none⟩ _ B2 (Ne.symm q4)).trans (b2y ((LL_ne (show 10 ≠ 11 by decide)).1 h))), ((Below.heap_setCell W ⟨B1, 0, none⟩ _ Bw (Ne.symm q5)).trans hbw), (hfr.set B1 _ (Or.inl rfl))⟩
  · obtain ⟨g, cap, e1, hown, hgO⟩ := hB.res (dp 9 (by kernel_rfl))
    have hbx := b2n hnr
    have hfz := hbx.frozen
    have hcx := hbx.cell
    subst e1
    refine wpOpIn_skip (w' := W.setCell ⟨B2, 0, none⟩ (.slice (some ⟨g, 0, none⟩) (n + 1) cap)) hF rfl rfl rfl (by go_simp) ?_
    exact ⟨_, _, _, _, _, _, _, _, _, _, OA, OB, rfl, by simp [hsz], closedL_set hcl hr, (fun h => h15 ((LL_ne (show 11 ≠ 0 by decide)).1 h)), (fun h => h16 ((LL_ne (show 11 ≠ 1 by decide)).1 h)), (fun h => h17 ((LL_ne (show 11 ≠ 2 by decide)).1 h)), (fun h => h20 ((LL_ne (show 11 ≠ 5 by decide)).1 h)), (fun h => h21 ((LL_ne (show 11 ≠ 6 by decide)).1 h)), (fun h => h22 ((LL_ne (show 11 ≠ 7 by decide)).1 h)), (hA.move (LL_ne (show 11 ≠ 3 by decide)) (LL_ne (show 11 ≠ 4 by decide)) (fun _ => rfl) (fun _ => rfl) (by simp [World.setCell]) (fun k hk => Below.heap_setCell W ⟨B2, 0, none⟩ _ k (nA k hk).2.1)), (hB.move (LL_ne (show 11 ≠ 8 by decide)) (LL_ne (show 11 ≠ 9 by decide)) (fun _ => rfl) (fun _ => rfl) (by simp [World.setCell]) (fun k hk => Below.heap_setCell W ⟨B2, 0, none⟩ _ k (nB k hk).2.1)), (hdis), (fun h => (Below.heap_setCell W ⟨B2, 0, none⟩ _ B1 q4).trans (b1n (fun h2 => h ((LL_ne (show 11 ≠ 10 by decide)).2 h2)))), (fun h => (Below.heap_setCell W ⟨B2, 0, none⟩ _ B1 q4).trans (b1y ((LL_ne (show 11 ≠ 10 by decide)).1 h))), (fun h => absurd (LL_self (show 11 < l.size by rw [hsz]; decide)) h), (fun _ => hbx.set _), ((Below.heap_setCell W ⟨B2, 0, none⟩ _ Bw (Ne.symm q6)).trans hbw), (hfr.set B2 _ (Or.inr (Or.inl rfl)))⟩
end
set_option maxHeartbeats 1000000 in
theorem clock_ranges_h.calls (A : Option Addr) (c n : Nat) (rate lc : Int) (w : World) :
    Calls Try.prog 91 #[.agg #[.int .i64 rate, .slice A n c], .int .i64 lc] w fun e w' => ∃ gc gl, e = .returned (.func (.func 95) #[] #[.pointer (some ⟨gc, 0, none⟩), .pointer (some ⟨gl, 0, none⟩)]) ∧ gc < w'.heap.size ∧ gl < w'.heap.size ∧ w.heap.size ≤ gc ∧ w.heap.size ≤ gl ∧
      w'.heap[gc]? = some (.cells #[.int .i64 rate, .slice A n c] 54 (0, 0)) ∧ w'.heap[gl]? = some (.cells #[.int .i64 lc] 3 (0, 0)) ∧ Below w.heap.size w w' := by
  go_enter Try.func91, Try.ntmps91
  go_wp2
  go_ret
  refine ⟨_, _, rfl, ?_, ?_, ?_, ?_, ?_, ?_, ?_⟩
  · simp; omega
  · simp
  · omega
  · omega
  · exact (Below.heap_alloc _ _ _ (by simp)).trans (World.alloc_heap_new w _)
  · have h := World.alloc_heap_new (w.alloc (Obj.cells #[.int .i64 rate, .slice A n c] 54)) (Obj.cells #[.int .i64 lc] 3)
    simp only [World.size_alloc] at h
    exact h
  · exact ((Below.refl _ w).alloc (Nat.le_refl _) _).alloc (by simp) _
def noPanic_ (Q : Exit → Act → World → Prop) : Exit → Act → World → Prop
  | .panic _, _, _ => False
  | e, a, w => Q e a w
theorem noPanic_of {F : Fence} {n : Nat} {P : Program} {c : Code} {Q : Exit → Act → World → Prop} {a : Act} {w : World} (h : c.wpIn F n P (noPanic_ Q) a w) : c.wpIn F n P Q a w := by
  refine wpIn_mono h ?_
  intro e a w h
  cases e with
  | panic _ => exact False.elim h
  | normal => exact h
  | ret => exact h
  | exit _ => exact h
  | goto _ => exact h
  | outgrown => exact h
theorem noncells_ne {A : World} {b : Nat} {cs : Array Value} {t : TypeId} {row : Option Nat} (h : A.heap[b]? = some (.cells cs t (0, 0))) (hr : ∀ r, row = some r → ∃ o : Obj, A.heap[r]? = some o ∧ o.isCells = false) : some b ≠ row := by
  intro e
  obtain ⟨o, ho, hc⟩ := hr b e.symm
  rw [h] at ho
  cases ho
  cases hc
theorem own_kept_ {A B : World} {row : Option Nat} {base e n : Nat} {v : Value} {xs : List Value} (h : A.ownsRow base e 1 v n xs) (hg : A.grownBy B row) (hr : ∀ r, row = some r → ∃ o : Obj, A.heap[r]? = some o ∧ o.isCells = false) : B.ownsRow base e 1 v n xs :=
  own_move h (fun k hk => by
    obtain ⟨cells, hc⟩ := own_typed h k hk
    exact hg.block k (own_lt h k hk) (noncells_ne hc hr))
def clock_bounds.II (B1 B2 gc gl base : Nat) (w1 : World) (pre : List S56) (W : World) : Prop :=
  (∃ v1 v2, Boxed W B1 22 v1 ∧ Boxed W B2 22 v2 ∧ W.ownsRow base 3 1 v1 (pre.length + 1) ((0 :: pre.map (·.f0)).map (Value.int .i64)) ∧ W.ownsRow base 3 1 v2 (pre.length + 1) ((3600000000 :: pre.map (·.f1)).map (Value.int .i64)) ∧
    (∀ g, v1.ownBlock = some g → v2.ownBlock ≠ some g) ∧ (some gl ≠ v1.ownBlock ∧ some gl ≠ v2.ownBlock) ∧ (some gc ≠ v1.ownBlock ∧ some gc ≠ v2.ownBlock)) ∧ Below base w1 W
theorem clock_bounds.II_own {B1 B2 gc gl base : Nat} {w1 : World} (hb : base ≤ w1.heap.size) : OwnFrom w1.heap.size (clock_bounds.II B1 B2 gc gl base w1) := by
  rintro s A B row ⟨⟨v1, v2, h1, h2, h3, h4, h5, h6, h7⟩, h8⟩ hg hr
  have hr' : ∀ r, row = some r → ∃ o : Obj, A.heap[r]? = some o ∧ o.isCells = false := fun r e => (hr r e).2
  exact ⟨⟨v1, v2, h1.kept hg (noncells_ne h1 hr'), h2.kept hg (noncells_ne h2 hr'), own_kept_ h3 hg hr', own_kept_ h4 hg hr', h5, h6, h7⟩, h8.grown hg (Nat.le_trans hb h8.size) (fun k e => Nat.le_trans hb (hr k e).1)⟩
section
attribute [local go_sem] Oper.semAt_some
set_option maxRecDepth 100000 in
set_option maxHeartbeats 8000000 in
theorem clock_bounds.calls (a0_0 : Int) (A0_1 : Option Addr) (c0_1 : Nat) (l0_1 : List S58) (a1 : Int) (r1 r2 : Int) (w : World) (hr0_1 : Kd.C k58 w A0_1 l0_1.length l0_1) (hc0_1 : l0_1.length ≤ c0_1) (h : clock_bounds.f a0_0 l0_1 a1 = some (r1, r2)) :
    Calls Try.prog 74 #[.agg #[.int .i64 a0_0, .slice A0_1 l0_1.length c0_1], .int .i64 a1] w fun e w' => e = .returned (.tuple #[.int .i64 r1, .int .i64 r2]) ∧ Below w.heap.size w w' := by
  unfold clock_bounds.f at h
  split at h
  case isFalse => cases h
  rename_i hok
  have h := Option.some.inj h
  obtain ⟨rfl, rfl⟩ := Prod.mk.inj h
  clear h
  have hmx : l0_1.length ≤ 1000 := hok.2.2.2.2.1
  have HR := Aside0.mk (fun W (hb : Below w.heap.size w W) => Kd.C_below hr0_1 hb)
  have HOK := Aside0.mk hok
  clear hr0_1 hc0_1 hok
  refine (callsIn_wide (n := 3)).1 ?_
  refine callsIn_of_wp_marks Try.func74 rfl trivial ?_
  simp only [Try.ntmps74, List.size_toArray, List.length_cons, List.length_nil, Nat.reduceAdd, Nat.reduceSub, Array.replicate_succ, Array.replicate_zero, List.push_toArray, List.append_toArray, List.nil_append, List.cons_append]
  gi_wp2_with fail
  refine ⟨trivial, (callsIn_wide.2 (clock_ranges_h.calls A0_1 c0_1 l0_1.length a0_0 a1 _)).mono ?_⟩
  rintro e w1 ⟨gc, gl, rfl, g1, g2, g3, g4, hc, hl, hb⟩
  simp only [World.size_alloc] at g3 g4
  have hsz : w.heap.size + 1 + 1 + 1 + 1 + 1 ≤ w1.heap.size := by have := hb.size; simp at this; omega
  have t1 := World.alloc_heap_new (w.alloc (Obj.cells #[.int .i64 a0_0, .slice A0_1 l0_1.length c0_1] 54)) (Obj.cells #[.int .i64 0] 3)
  have o1 := World.ownsRow_lit (base := w.heap.size) (e := 3) (size := 1) (w.alloc (Obj.cells #[.int .i64 a0_0, .slice A0_1 l0_1.length c0_1] 54)) #[.int .i64 0] 1 (by simp) (by unfold maxLen; omega) (by simp)
  have o2 := World.ownsRow_lit (base := w.heap.size) (e := 3) (size := 1) ((w.alloc (Obj.cells #[.int .i64 a0_0, .slice A0_1 l0_1.length c0_1] 54)).alloc (Obj.cells #[.int .i64 0] 3)) #[.int .i64 3600000000] 1 (by simp; omega) (by unfold maxLen; omega) (by simp)
  have b1 := Boxed.new (((w.alloc (Obj.cells #[.int .i64 a0_0, .slice A0_1 l0_1.length c0_1] 54)).alloc (Obj.cells #[.int .i64 0] 3)).alloc (Obj.cells #[.int .i64 3600000000] 3)) 22 (.slice (some ⟨w.heap.size + 1, 0, none⟩) 1 1)
  have b2 := Boxed.new ((((w.alloc (Obj.cells #[.int .i64 a0_0, .slice A0_1 l0_1.length c0_1] 54)).alloc (Obj.cells #[.int .i64 0] 3)).alloc (Obj.cells #[.int .i64 3600000000] 3)).alloc (Obj.cells #[.slice (some ⟨w.heap.size + 1, 0, none⟩) 1 1] 22)) 22 (.slice (some ⟨w.heap.size + 1 + 1, 0, none⟩) 1 1)
  simp only [World.size_alloc] at o1 o2 b1 b2
  have O1 := pw_own_below (((o1.alloc (.cells #[.int .i64 3600000000] 3)).alloc (.cells #[.slice (some ⟨w.heap.size + 1, 0, none⟩) 1 1] 22)).alloc (.cells #[.slice (some ⟨w.heap.size + 1 + 1, 0, none⟩) 1 1] 22)) hb
  have O2 := pw_own_below ((o2.alloc (.cells #[.slice (some ⟨w.heap.size + 1, 0, none⟩) 1 1] 22)).alloc (.cells #[.slice (some ⟨w.heap.size + 1 + 1, 0, none⟩) 1 1] 22)) hb
  have BX1 : Boxed w1 (w.heap.size + 1 + 1 + 1) 22 (.slice (some ⟨w.heap.size + 1, 0, none⟩) 1 1) := blk_below (Boxed.alloc b1 (.cells #[.slice (some ⟨w.heap.size + 1 + 1, 0, none⟩) 1 1] 22)) hb
  have BX2 : Boxed w1 (w.heap.size + 1 + 1 + 1 + 1) 22 (.slice (some ⟨w.heap.size + 1 + 1, 0, none⟩) 1 1) := blk_below b2 hb
  have hw1 : Below w.heap.size w w1 := (below_alloc (below_alloc (below_alloc (below_alloc (below_alloc (Below.refl _ _) _) _) _) _) _).trans (hb.mono (by simp; omega))
  clear o1 o2 b1 b2 t1 hb
  have HC := Aside0.mk hc
  have HL := Aside0.mk hl
  have HW1 := Aside0.mk hw1
  have HO1 := Aside0.mk O1
  have HO2 := Aside0.mk O2
  have HX1 := Aside0.mk BX1
  have HX2 := Aside0.mk BX2
  clear hc hl hw1 O1 O2 BX1 BX2
  have hgcl : gc ≠ gl := by
    intro e
    have h1 := HC.out
    rw [e, HL.out] at h1
    simp at h1
  have hII : clock_bounds.II (w.heap.size + 1 + 1 + 1) (w.heap.size + 1 + 1 + 1 + 1) gc gl w.heap.size w1 [] w1 :=
    ⟨⟨_, _, HX1.out, HX2.out, HO1.out, HO2.out, fun g h => by simp [Value.ownBlock] at h ⊢; omega, ⟨by simp [Value.ownBlock]; omega, by simp [Value.ownBlock]; omega⟩, ⟨by simp [Value.ownBlock]; omega, by simp [Value.ownBlock]; omega⟩⟩, Below.refl _ _⟩
  have HII := Aside0.mk hII
  clear hII
  gi_wp2_with fail
  refine wpIn_rangeFunc_ownH (n := 3) (Kp := clock_bounds.kept w.heap.size gc gl) (encs := fun x : S56 => #[.agg #[Value.int .i64 x.f0, .int .i64 x.f1]]) rfl (show 1 ≤ 3 by omega) (gf := 95) (lb := #[.pointer (some ⟨gc, 0, none⟩), .pointer (some ⟨gl, 0, none⟩)]) rfl trivial (enters_of Try.func95 (by kernel_rfl) rfl)
    (clock_ranges_1h.stops 2 (by omega) w.heap.size gc gl A0_1 c0_1 l0_1 a0_0 a1 w1 (by omega) HC.out HL.out HOK.out (fun W hW => HR.out W (HW1.out.trans hW)))
    (fun h k => ⟨h.1.trans k.1, k.2.1.trans h.2.1, k.2.2.trans h.2.2⟩)
    (fun W l o o' hl h hc hw => ⟨belowK_b (w := w1) (by omega) W l o o' hl h hc hw, World.putObj_heap_other (by omega), World.putObj_heap_other (by omega)⟩)
    (Below.refl _ _) (fun _ => rfl)
    (clock_bounds.II (w.heap.size + 1 + 1 + 1) (w.heap.size + 1 + 1 + 1 + 1) gc gl w.heap.size w1)
    (fun _ _ _ => False)
    (clock_bounds.II_own (by omega))
    (fun _ _ _ _ _ hs _ _ => hs)
    HII.out
    (fun x a' W => ∃ Bx, w1.heap.size ≤ Bx ∧ W.heap[Bx]? = some (.cells #[.int .i64 x.f0, .int .i64 x.f1] 56 (0, 0)) ∧ a' = { tmps := #[.agg #[.int .i64 a0_0, .slice A0_1 l0_1.length c0_1], .int .i64 a1, .pointer (some ⟨w.heap.size, 0, none⟩), undef, .int .i64 0, .int .i64 0, .pointer (some ⟨w.heap.size + 1 + 1 + 1, 0, none⟩), .pointer (some ⟨w.heap.size + 1 + 1 + 1 + 1, 0, none⟩), .pointer (some ⟨Bx, 0, none⟩), .slice (some ⟨w.heap.size + 1, 0, none⟩) 1 1, .slice (some ⟨w.heap.size + 1 + 1, 0, none⟩) 1 1, .agg #[.int .i64 a0_0, .slice A0_1 l0_1.length c0_1], .int .i64 a1, .func (.func 95) #[] #[.pointer (some ⟨gc, 0, none⟩), .pointer (some ⟨gl, 0, none⟩)], .agg #[.int .i64 x.f0, .int .i64 x.f1], undef, undef, undef, undef, undef, undef, undef, undef, undef, undef, undef, undef, undef, undef], defers := [] })
    (fun x a' _ X Y row hs hg hr => by obtain ⟨Bx, h1, h2, h3⟩ := hs; exact ⟨Bx, h1, (hg.block Bx (blk_lt h2) (noncells_ne h2 (fun r e => (hr r e).2))).trans h2, h3⟩)
    ?assign ?body ?done ?stop
  case assign =>
    rintro l pre x W K ⟨⟨v1, v2, x1, x2, x3, x4, x5, x6, x7⟩, hB⟩ hK
    have hB' := Aside0.mk hB
    clear hB
    gi_wp2
    exact hK _ _ ((KeepsOthers.alloc _ _).from _) ⟨(Below.refl _ W).alloc (by have := hB'.out.size; omega) _, Below.heap_alloc W _ gc (by have := hB'.out.size; omega), Below.heap_alloc W _ gl (by have := hB'.out.size; omega)⟩ ⟨⟨v1, v2, x1.alloc _, x2.alloc _, x3.alloc _, x4.alloc _, x5, x6, x7⟩, hB'.out.alloc (by have := hB'.out.size; omega) _⟩ ⟨W.heap.size, hB'.out.size, blk_new W _, rfl⟩
  case body =>
    rintro l pre x a' W hl0 ⟨r, hr⟩ ⟨⟨v1, v2, x1, x2, x3, x4, x5, ⟨x6, x7⟩, ⟨x8, x9⟩⟩, hB⟩ ⟨Bx, hBx, bX, rfl⟩ hlt
    have hWs := hB.size
    have hmix : Try.prog.follows .mixedOrders = true := by kernel_rfl
    gi_wp2
    refine wpIn_region_inv (INV := clock_bounds.INV _ (fun x15 x16 x17 x18 x19 x20 x21 x22 x23 x24 => { tmps := #[.agg #[.int .i64 a0_0, .slice A0_1 l0_1.length c0_1], .int .i64 a1, .pointer (some ⟨w.heap.size, 0, none⟩), undef, .int .i64 0, .int .i64 0, .pointer (some ⟨w.heap.size + 1 + 1 + 1, 0, none⟩), .pointer (some ⟨w.heap.size + 1 + 1 + 1 + 1, 0, none⟩), .pointer (some ⟨Bx, 0, none⟩), .slice (some ⟨w.heap.size + 1, 0, none⟩) 1 1, .slice (some ⟨w.heap.size + 1 + 1, 0, none⟩) 1 1, .agg #[.int .i64 a0_0, .slice A0_1 l0_1.length c0_1], .int .i64 a1, .func (.func 95) #[] #[.pointer (some ⟨gc, 0, none⟩), .pointer (some ⟨gl, 0, none⟩)], .agg #[.int .i64 x.f0, .int .i64 x.f1], x15, x16, x17, x18, x19, x20, x21, x22, x23, x24, undef, undef, undef, undef], defers := [] }) w.heap.size (w.heap.size + 1 + 1 + 1) (w.heap.size + 1 + 1 + 1 + 1) Bx v1 v2 (pre.length + 1) ((0 :: pre.map (·.f0)).map (Value.int .i64)) ((3600000000 :: pre.map (·.f1)).map (Value.int .i64)) x.f0 x.f1 W) hmix (by kernel_rfl)
      (clock_bounds.step (fun _ => trivial) (.agg #[.int .i64 a0_0, .slice A0_1 l0_1.length c0_1]) (.int .i64 a1) (.pointer (some ⟨w.heap.size, 0, none⟩)) (undef) (.int .i64 0) (.int .i64 0) (.slice (some ⟨w.heap.size + 1, 0, none⟩) 1 1) (.slice (some ⟨w.heap.size + 1 + 1, 0, none⟩) 1 1) (.agg #[.int .i64 a0_0, .slice A0_1 l0_1.length c0_1]) (.int .i64 a1) (.func (.func 95) #[] #[.pointer (some ⟨gc, 0, none⟩), .pointer (some ⟨gl, 0, none⟩)]) (.agg #[.int .i64 x.f0, .int .i64 x.f1]) (undef) (undef) (undef) (undef) w.heap.size (w.heap.size + 1 + 1 + 1) (w.heap.size + 1 + 1 + 1 + 1) Bx v1 v2 (pre.length + 1) _ _ x.f0 x.f1 W rfl rfl (by omega) (by omega) (blk_lt x1) (blk_lt x2) (blk_lt bX) (by omega) (by omega) (by omega) (x1.not_row (by decide) x3) (x1.not_row (by decide) x4) (x2.not_row (by decide) x3) (x2.not_row (by decide) x4) (own_ne x3 bX (by decide)) (own_ne x4 bX (by decide))) ?end_ ?sz_ ?h0_
    case sz_ =>
      rintro l' a' W' ⟨_, _, _, _, _, _, _, _, _, _, _, _, _, hsz, _⟩
      exact hsz
    case h0_ =>
      have hno : ∀ k, ¬ LL (Array.replicate 12 false) k := by
        intro k h
        unfold LL at h
        rw [Array.getElem?_replicate] at h
        split at h <;> simp at h
      exact ⟨undef, undef, undef, undef, undef, undef, undef, undef, undef, undef, v1.ownBlock.toList, v2.ownBlock.toList, rfl, by simp, closedL_none _, fun h => absurd h (hno _), fun h => absurd h (hno _), fun h => absurd h (hno _), fun h => absurd h (hno _), fun h => absurd h (hno _), fun h => absurd h (hno _),
        ⟨fun g hg => own_lt x3 g (by simpa using hg), fun g hg => Or.inl (by simpa using Eq.symm (Option.mem_toList.1 hg)), fun _ => ⟨x3, fun g hg => Option.mem_toList.2 hg⟩, fun h => absurd h (hno _), fun h => absurd h (hno _)⟩,
        ⟨fun g hg => own_lt x4 g (by simpa using hg), fun g hg => Or.inl (by simpa using Eq.symm (Option.mem_toList.1 hg)), fun _ => ⟨x4, fun g hg => Option.mem_toList.2 hg⟩, fun h => absurd h (hno _), fun h => absurd h (hno _)⟩,
        fun g h1 h2 => x5 g (Option.mem_toList.1 h1) (Option.mem_toList.1 h2),
        fun _ => x1, fun h => absurd h (hno _), fun _ => x2, fun h => absurd h (hno _), bX, ⟨rfl, rfl, rfl, Nat.le_refl _, fun _ _ _ => rfl⟩⟩
    case end_ =>
      rintro l' a' W' ⟨y15, y16, y17, y18, y19, y20, y21, y22, y23, y24, OA, OB, rfl, hsz, hcl, _, _, _, _, _, _, hA, hB2, hdis, b1n, b1y, b2n, b2y, hbw, hfr⟩ hall
      obtain ⟨gA, capA, eA, ownA, mA⟩ := hA.res (hall 4 (by decide))
      obtain ⟨gB, capB, eB, ownB, mB⟩ := hB2.res (hall 9 (by decide))
      have bA := b1y (hall 10 (by decide))
      have bB := b2y (hall 11 (by decide))
      have hSS : ∀ g, w.heap.size ≤ g → g ≠ (w.heap.size + 1 + 1 + 1) → g ≠ (w.heap.size + 1 + 1 + 1 + 1) → some g ≠ v1.ownBlock → some g ≠ v2.ownBlock → g < W.heap.size → W'.heap[g]? = W.heap[g]? := fun g _ h1 h2 h3 h4 h5 => hfr.blk g h5 (fun h => by
        rcases h with h | h | h | h
        · exact h1 h
        · exact h2 h
        · exact h3 h
        · exact h4 h)
      have hbel : Below w.heap.size W W' := ⟨hfr.os, hfr.tape, hfr.output, hfr.size, fun k hk => hfr.blk k (by omega) (fun h => by
        rcases h with h | h | h | h
        · omega
        · omega
        · have := own_base x3 k h.symm; omega
        · have := own_base x4 k h.symm; omega)⟩
      refine ⟨⟨hfr.size, fun k o hk ho hc => ?_⟩, ⟨hbel, hSS gc (by omega) (by omega) (by omega) x8 x9 (by omega), hSS gl (by omega) (by omega) (by omega) x6 x7 (by omega)⟩, ⟨y19, y24, bA, bB, by simpa using ownA, by simpa using ownB, ?_, ⟨?_, ?_⟩, ⟨?_, ?_⟩⟩, hB.trans hbel⟩
      · have hlt2 : k < W.heap.size := (Array.getElem?_eq_some_iff.1 ho).1
        have nc : ∀ {g : Nat} {cs : Array Value} {t : TypeId}, W.heap[g]? = some (.cells cs t (0, 0)) → k ≠ g := fun h e => by
          rw [← e, ho] at h
          cases h
          cases hc
        refine (hSS k (by omega) (nc x1) (nc x2) (fun e => ?_) (fun e => ?_) hlt2).trans ho
        · obtain ⟨cells, h⟩ := own_typed x3 k e.symm
          exact nc h rfl
        · obtain ⟨cells, h⟩ := own_typed x4 k e.symm
          exact nc h rfl
      · intro g h1 h2
        rw [eA] at h1
        rw [eB] at h2
        simp [Value.ownBlock] at h1 h2
        exact hdis gA mA (by rw [h1, ← h2]; exact mB)
      · intro e
        rw [eA] at e
        simp [Value.ownBlock] at e
        rcases hA.old gA mA with h | h
        · exact x6 (by rw [e]; exact h)
        · omega
      · intro e
        rw [eB] at e
        simp [Value.ownBlock] at e
        rcases hB2.old gB mB with h | h
        · exact x7 (by rw [e]; exact h)
        · omega
      · intro e
        rw [eA] at e
        simp [Value.ownBlock] at e
        rcases hA.old gA mA with h | h
        · exact x8 (by rw [e]; exact h)
        · omega
      · intro e
        rw [eB] at e
        simp [Value.ownBlock] at e
        rcases hB2.old gB mB with h | h
        · exact x9 (by rw [e]; exact h)
        · omega
  case done =>
    rintro D ys W hD rfl ⟨⟨v1, v2, x1, x2, x3, x4, x5, x67, x89⟩, hB⟩ hK
    obtain ⟨A1, c1, rfl, hl1, hc1⟩ := Kd.R_reads (R_of_own (l := 0 :: (clock_bounds.up a0_0 a1 l0_1 l0_1.length).map (·.f0)) (by simpa using x3))
    obtain ⟨A2, c2, rfl, hl2, hc2⟩ := Kd.R_reads (R_of_own (l := 3600000000 :: (clock_bounds.up a0_0 a1 l0_1 l0_1.length).map (·.f1)) (by simpa using x4))
    have HC1 := Aside0.mk hc1
    have HC2 := Aside0.mk hc2
    have HX1 := Aside0.mk x1
    have HX2 := Aside0.mk x2
    have HHB := Aside0.mk hB
    have HK := Aside0.mk hK
    have hmix : Try.prog.follows .mixedOrders = true := by kernel_rfl
    have hup : clock_bounds.up a0_0 a1 l0_1 l0_1.length = l0_1.map (clock_bounds.wn a0_0 a1) := by unfold clock_bounds.up; rw [List.take_length]
    have HM1 : Aside0 (slices_Max_int_int.f (0 :: (clock_bounds.up a0_0 a1 l0_1 l0_1.length).map (·.f0)) = some ((l0_1.map fun r => (clock_bounds.wn a0_0 a1 r).f0).foldl mx 0)) := ⟨by unfold slices_Max_int_int.f; rw [hup, List.map_map]; rfl⟩
    have HM2 : Aside0 (slices_Min_int_int.f (3600000000 :: (clock_bounds.up a0_0 a1 l0_1 l0_1.length).map (·.f1)) = some ((l0_1.map fun r => (clock_bounds.wn a0_0 a1 r).f1).foldl mn 3600000000)) := ⟨by unfold slices_Min_int_int.f; rw [hup, List.map_map]; rfl⟩
    clear hc1 hc2 x1 x2 x3 x4 x5 x67 x89 hB hK hup
    generalize (0 :: (clock_bounds.up a0_0 a1 l0_1 l0_1.length).map (·.f0)) = LA at HC1 HX1 HM1 hl1 ⊢
    generalize (3600000000 :: (clock_bounds.up a0_0 a1 l0_1 l0_1.length).map (·.f1)) = LB at HC2 HX2 HM2 hl2 ⊢
    obtain ⟨RA, hRA⟩ : ∃ RA, (l0_1.map fun r => (clock_bounds.wn a0_0 a1 r).f0).foldl mx 0 = RA := ⟨_, rfl⟩
    obtain ⟨RB, hRB⟩ : ∃ RB, (l0_1.map fun r => (clock_bounds.wn a0_0 a1 r).f1).foldl mn 3600000000 = RB := ⟨_, rfl⟩
    rw [hRA] at HM1
    rw [hRB] at HM2
    have HRA := Aside0.mk hRA
    have HRB := Aside0.mk hRB
    clear hRA hRB
    gi_wp2_with fail
    obtain ⟨S, hSdef⟩ : ∃ S : World → Prop, S = fun X => Boxed X (w.heap.size + 1 + 1 + 1) 22 (.slice A1 LA.length c1) ∧ Boxed X (w.heap.size + 1 + 1 + 1 + 1) 22 (.slice A2 LB.length c2) := ⟨_, rfl⟩
    have HS0 : Aside0 (∀ m, S (W.drew.drewN m)) := ⟨fun m => by rw [hSdef]; exact ⟨HX1.out, HX2.out⟩⟩
    have HS00 : Aside0 (S W.drew) := ⟨by rw [hSdef]; exact ⟨HX1.out, HX2.out⟩⟩
    have ls : Aside0 (∀ X, S X → X.cell? ⟨w.heap.size + 1 + 1 + 1, 0, none⟩ = some (.slice A1 LA.length c1) ∧ X.cell? ⟨w.heap.size + 1 + 1 + 1 + 1, 0, none⟩ = some (.slice A2 LB.length c2)) := ⟨fun X h => by rw [hSdef] at h; exact ⟨h.1.cell, h.2.cell⟩⟩
    refine noPanic_of ?_
    refine wpIn_region_held S 6 hmix ?_
    refine wpAnyHI_take (i := 0) (v := .slice A1 LA.length c1) (fun _ => trivial) rfl (by kernel_rfl) (fun _ _ _ h => h) (Or.inl ⟨by kernel_rfl, fun X hX => ?_⟩) HS00.out ?_
    · obtain ⟨q1, q2⟩ := ls.out X hX
      go_simp
    refine wpAnyHI_take (i := 2) (v := .slice A2 LB.length c2) (fun _ => trivial) rfl (by kernel_rfl) (fun _ _ _ h => h) (Or.inl ⟨by kernel_rfl, fun X hX => ?_⟩) HS00.out ?_
    · obtain ⟨q1, q2⟩ := ls.out X hX
      go_simp
    refine wpAnyHI_one (i := 1) (fun _ => trivial) rfl (by kernel_rfl) (fun K' hK' => ?_)
    rw [if_pos (by kernel_rfl)]
    go_simp
    refine ⟨trivial, (callsIn_wide.2 (slices_Max_int_int.calls A1 c1 LA RA _ (Kd.C_below HC1.out (below_drew (Below.refl _ _))) hl1 HM1.out)).mono ?_⟩
    rintro e W2 ⟨rfl, ⟨⟨nd, rfl⟩⟩⟩
    dsimp only
    refine hK' _ _ (HS0.out nd) ?_
    clear hK' K'
    refine wpAnyHI_one (i := 3) (fun _ => trivial) rfl (by kernel_rfl) (fun K' hK' => ?_)
    rw [if_pos (by kernel_rfl)]
    go_simp
    refine ⟨trivial, (callsIn_wide.2 (slices_Min_int_int.calls A2 c2 LB RB _ (Kd.C_below HC2.out (pw_below_drewN (Below.refl _ _) (1 + nd))) hl2 HM2.out)).mono ?_⟩
    rintro e W2 ⟨rfl, ⟨⟨nd2, rfl⟩⟩⟩
    dsimp only
    have HS1 : Aside0 (∀ m k, S ((W.drewN m).drewN k)) := ⟨fun m k => by rw [hSdef]; exact ⟨HX1.out, HX2.out⟩⟩
    refine hK' _ _ (HS1.out _ _) ?_
    clear hK' K'
    refine wpAnyHI_take (i := 4) (v := .int .i64 RA) (fun _ => trivial) rfl (by kernel_rfl) (fun _ _ _ h => h) (Or.inl ⟨by kernel_rfl, fun X hX => ?_⟩) (HS1.out _ _) ?_
    · go_simp
    refine wpAnyHI_take (i := 5) (v := .int .i64 RB) (fun _ => trivial) rfl (by kernel_rfl) (fun _ _ _ h => h) (Or.inl ⟨by kernel_rfl, fun X hX => ?_⟩) (HS1.out _ _) ?_
    · go_simp
    refine wpAnyHI_done (by kernel_rfl) ?_ _
    unfold noPanic_
    go_simp
    gi_wp2
    refine ⟨by simp, .inl ⟨_, _, rfl, run_takeDeferred (show (W.drewN _).heap[D]? = _ from HK.out), ?_⟩⟩
    refine ⟨_, by simp [results, Try.results74, go_sem]; exact ⟨HRA.out.symm, HRB.out.symm⟩, rfl, ?_⟩
    exact ((HW1.out.trans HHB.out).trans (pw_below_drewN (Below.refl _ _) _)).trans (belowK_b (w := w) (Nat.le_refl _) (W.drewN _) D _ _ (by omega) (show (W.drewN _).heap[D]? = _ from HK.out) rfl rfl)
  case stop =>
    rintro D c pre W _ _ h _
    exact h.elim
end
open Go.Proofs.YteknbadjfojmbaaW.PrintWords.Kd renaming R_alloc → za_, R_drewN → zb_, R_drew → zc_, R_lower → zg_, R_reads' → zl_
open Go.Proofs.YteknbadjfojmbaaW.PrintWords renaming blk_drewN → zm_, blk_drew → zn_, blk_alloc → zo_, blk_below → zq_, below_set → zr_, below_alloc → zs_, pw_below_drewN → zt_, below_drew1 → zu_, below_step → zv_, below_size → zw_
def clock_Now.f (k : Nat) (a0_0 : Int) (l0_1 : List (S58)) (a1 : Int) : Option (Int × Int × Int) := (clock_Check.f k a0_0 l0_1).bind fun t424 => (if t424 = 0 then ((clock_instants.f (([a1] : List Int))).bind fun t428 => (if t428 = true then ((clock_bounds.f a0_0 l0_1 a1).bind fun bt429 => (if bt429.1 > bt429.2 then (some (0, 0, 24)) else (some (bt429.1, bt429.2, 0)))) else (some (0, 0, 3)))) else (some (0, 0, t424)))
set_option maxHeartbeats 8000000 in
set_option maxRecDepth 100000 in
theorem clock_Now.calls (k : Nat) (a0_0 : Int) (A0_1 : Option Addr) (c0_1 : Nat) (l0_1 : List (S58)) (a1 : Int) (r1 : Int) (r2 : Int) (r3 : Int) (w : World) (hr0_1 : Kd.C k58 w A0_1 l0_1.length l0_1) (hc0_1 : l0_1.length ≤ c0_1) (h : clock_Now.f k a0_0 l0_1 a1 = some (r1, r2, r3)) :
    Calls Try.prog 39 #[.agg #[.int .i64 a0_0, .slice A0_1 l0_1.length c0_1], .int .i64 a1] w fun e w' => e = .returned (.tuple #[.agg #[.int .i64 r1, .int .i64 r2], .int .i64 r3]) ∧ Below w.heap.size w w' := by
  have hu54 := Try.underlying54
  have hu56 := Try.underlying56
  have HR0_1 := Aside0.mk hr0_1
  have HC0_1 := Aside0.mk hc0_1
  clear hr0_1 hc0_1
  have HB := Aside0.mk (Below.refl w.heap.size w)
  have H : ((clock_Check.f k a0_0 l0_1).bind fun t424 => (if t424 = 0 then ((clock_instants.f (([a1] : List Int))).bind fun t428 => (if t428 = true then ((clock_bounds.f a0_0 l0_1 a1).bind fun bt429 => (if bt429.1 > bt429.2 then (some (0, 0, 24)) else (some (bt429.1, bt429.2, 0)))) else (some (0, 0, 3)))) else (some (0, 0, t424)))) = some (r1, r2, r3) := h
  clear h
  replace H := Option.bind_eq_some_iff.mp H
  obtain ⟨t424, A30, H⟩ := H
  replace H : (if t424 = 0 then ((clock_instants.f (([a1] : List Int))).bind fun t428 => (if t428 = true then ((clock_bounds.f a0_0 l0_1 a1).bind fun bt429 => (if bt429.1 > bt429.2 then (some (0, 0, 24)) else (some (bt429.1, bt429.2, 0)))) else (some (0, 0, 3)))) else (some (0, 0, t424))) = some (r1, r2, r3) := H
  have A3 := Aside0.mk A30
  clear A30
  by_cases c4 : t424 = 0
  · rw [if_pos c4] at H
    have c4b0 : (t424 == 0) = true := beq_iff_eq.mpr c4
    have c4b1 : (t424 != 0) = false := bne_eq_false_iff_eq.mpr c4
    clear c4
    obtain ⟨y425, hy425⟩ : ∃ y_ : List Int, y_ = (([a1] : List Int)) := ⟨_, rfl⟩
    replace H : ((clock_instants.f y425).bind fun t428 => (if t428 = true then ((clock_bounds.f a0_0 l0_1 a1).bind fun bt429 => (if bt429.1 > bt429.2 then (some (0, 0, 24)) else (some (bt429.1, bt429.2, 0)))) else (some (0, 0, 3)))) = some (r1, r2, r3) := by first | (rw [hy425]; with_reducible exact H) | (have H2_ := (Option.bind_some _ _).symm.trans H; rw [hy425]; with_reducible exact H2_) | (have H2_ := (Option.bind_some _ _).symm.trans H; with_reducible exact H2_) | with_reducible exact H | (rw [hy425]; exact H) | exact H
    have Ny425 := Aside0.mk hy425
    clear hy425
    replace H := Option.bind_eq_some_iff.mp H
    obtain ⟨t428, A50, H⟩ := H
    replace H : (if t428 = true then ((clock_bounds.f a0_0 l0_1 a1).bind fun bt429 => (if bt429.1 > bt429.2 then (some (0, 0, 24)) else (some (bt429.1, bt429.2, 0)))) else (some (0, 0, 3))) = some (r1, r2, r3) := H
    have A5 := Aside0.mk A50
    clear A50
    by_cases c6 : t428 = true
    · subst c6
      have H1 : ((clock_bounds.f a0_0 l0_1 a1).bind fun bt429 => (if bt429.1 > bt429.2 then (some (0, 0, 24)) else (some (bt429.1, bt429.2, 0)))) = some (r1, r2, r3) := by rw [if_pos rfl] at H; exact H
      clear H
      have H := H1
      clear H1
      replace H := Option.bind_eq_some_iff.mp H
      obtain ⟨⟨t429, t430⟩, A70, H⟩ := H
      replace H : (if t429 > t430 then (some (0, 0, 24)) else (some (t429, t430, 0))) = some (r1, r2, r3) := H
      have A7 := Aside0.mk A70
      clear A70
      by_cases c8 : t429 > t430
      · rw [if_pos c8] at H
        have c8b0 : decide (t430 < t429) = true := decide_eq_true c8
        clear c8
        simp only [Option.some.injEq, Prod.mk.injEq] at H
        obtain ⟨rfl, rfl, rfl⟩ := H
        go_enter Try.func39, Try.ntmps39
        go_wp2_with (first | ((with_reducible refine gate_dst (N := 2) rfl ?_); refine box_event ?hg (N := 2) ?hd (cs := #[.int .i64 a0_0, .slice A0_1 l0_1.length c0_1]) (t := 54) ?hr ?_; (case hd => rfl); (case hg => rfl); (case hr => first | (go_simp; done) | (go_simp; rfl)); intro gb422 hg w9 hbox hb; have n0_ := Aside0.mk (zv_ (by repeat (first | (with_reducible first | exact HB.out | apply zs_ | apply zt_ | apply zu_) | exact HB.out)) hb); have n1_ := Aside0.mk (hbox); have n2_ := Aside0.mk ((by rw [hg]; exact (zw_ (by repeat (first | (with_reducible first | exact HB.out | apply zs_ | apply zt_ | apply zu_) | exact HB.out))) : w.heap.size ≤ gb422)); have n3_ := Aside0.mk ((by rw [hg]; exact (zw_ (by repeat (first | (with_reducible first | exact HB.out | apply zs_ | apply zt_ | apply zu_) | exact HB.out))) : w.heap.size ≤ gb422)); clear HB; have HB := n0_; have BK422 := n1_; have GW422 := n2_; have GE422 := n3_; clear n0_ n1_ n2_ n3_; clear hb hbox hg) | ((with_reducible refine gate_dst (N := 4) rfl ?_); refine box_event ?hg (N := 4) ?hd (cs := #[.int .i64 0, .int .i64 0]) (t := 56) ?hr ?_; (case hd => rfl); (case hg => rfl); (case hr => first | (go_simp; done) | (go_simp; rfl)); intro gb423 hg w10 hbox hb; have n0_ := Aside0.mk (zq_ (g := gb422) (o := .cells #[.int .i64 a0_0, .slice A0_1 l0_1.length c0_1] 54 (0, 0)) (by (with_reducible repeat (first | refine zm_ ?_ _ | refine zn_ ?_ | refine zo_ ?_ _)); exact BK422.out) hb); have n1_ := Aside0.mk (zv_ (by repeat (first | (with_reducible first | exact HB.out | apply zs_ | apply zt_ | apply zu_ | refine zr_ ?_ GE422.out) | exact HB.out)) hb); have n2_ := Aside0.mk (hbox); have n3_ := Aside0.mk ((by rw [hg]; exact (zw_ (by repeat (first | (with_reducible first | exact HB.out | apply zs_ | apply zt_ | apply zu_ | refine zr_ ?_ GE422.out) | exact HB.out))) : w.heap.size ≤ gb423)); have n4_ := Aside0.mk ((by rw [hg]; exact (zw_ (by repeat (first | (with_reducible first | exact HB.out | apply zs_ | apply zt_ | apply zu_ | refine zr_ ?_ GE422.out) | exact HB.out))) : w.heap.size ≤ gb423)); have n5_ := Aside0.mk ((by rw [hg]; exact Nat.ne_of_lt (blk_lt (g := gb422) (o := .cells #[.int .i64 a0_0, .slice A0_1 l0_1.length c0_1] 54 (0, 0)) (by (with_reducible repeat (first | refine zm_ ?_ _ | refine zn_ ?_ | refine zo_ ?_ _)); exact BK422.out)) : gb422 ≠ gb423)); have n6_ := Aside0.mk ((by rw [hg]; exact Nat.ne_of_gt (blk_lt (g := gb422) (o := .cells #[.int .i64 a0_0, .slice A0_1 l0_1.length c0_1] 54 (0, 0)) (by (with_reducible repeat (first | refine zm_ ?_ _ | refine zn_ ?_ | refine zo_ ?_ _)); exact BK422.out)) : gb423 ≠ gb422)); clear BK422; clear HB; have BK422 := n0_; have HB := n1_; have BK423 := n2_; have GW423 := n3_; have GE423 := n4_; have NB422_423 := n5_; have NB423_422 := n6_; clear n0_ n1_ n2_ n3_ n4_ n5_ n6_; clear hb hbox hg; have hnb11 := NB422_423.out; have hnc11 := NB423_422.out; have hcz12_0 : w10.cell? ⟨gb422, 0, none⟩ = some (.int .i64 a0_0) := (blk_cell BK422.out 0).trans rfl; have hcz12_1 : w10.cell? ⟨gb422, 1, none⟩ = some (.slice A0_1 l0_1.length c0_1) := (blk_cell BK422.out 1).trans rfl; have hfz12_0 := blk_frozen BK422.out 0; have hfz12_1 := blk_frozen BK422.out 1) | ((with_reducible refine gate_callee (f := 43) rfl ?_); refine goesL_ (some 10) rfl rfl Try.func43 (by kernel_rfl) rfl #[.agg #[.int .i64 a0_0, .slice A0_1 l0_1.length c0_1]] rfl (by (try simp only [List.map_toArray, List.map_cons, List.map_nil]); first | done | rfl | (simp only [List.length_drop, List.length_take]; rfl)) ?_; (with_reducible refine (clock_Check.calls k a0_0 _ _ l0_1 t424 _ ?side1 ?side2 A3.out).mono ?_); (case side1 => repeat (first | exact (Kd.C_below HR0_1.out HB.out) | (with_reducible refine Kd.C_alloc ?_ _) | (with_reducible refine Kd.C_drewN ?_ _) | (with_reducible refine Kd.C_drew ?_))); (case side2 => exact HC0_1.out); rintro e w13 ⟨rfl, hb⟩; refine ⟨_, rfl, ?_⟩; have n0_ := Aside0.mk (zq_ (g := gb422) (o := .cells #[.int .i64 a0_0, .slice A0_1 l0_1.length c0_1] 54 (0, 0)) (by (with_reducible repeat (first | refine zm_ ?_ _ | refine zn_ ?_ | refine zo_ ?_ _)); exact BK422.out) hb); have n1_ := Aside0.mk (zq_ (g := gb423) (o := .cells #[.int .i64 0, .int .i64 0] 56 (0, 0)) (by (with_reducible repeat (first | refine zm_ ?_ _ | refine zn_ ?_ | refine zo_ ?_ _)); exact BK423.out) hb); have n2_ := Aside0.mk (zv_ (by repeat (first | (with_reducible first | exact HB.out | apply zs_ | apply zt_ | apply zu_ | refine zr_ ?_ GE422.out | refine zr_ ?_ GE423.out) | exact HB.out)) hb); clear BK422; clear BK423; clear HB; have BK422 := n0_; have BK423 := n1_; have HB := n2_; clear n0_ n1_ n2_; (try clear hb); (try clear hb2); (try clear hk); (try clear hi)) | ((with_reducible refine gate_dst (N := 16) rfl ?_); refine Kd.R_lit (Kd.int .i64) _ 3 ?hg (N := 16) ?hd (xs := ([a1] : List Int)) (inner := [.int .i64 a1]) (ok := fun _ => True) (okp := fun _ => True) ?hr ?hp (fun _ hk => hk) trivial (Below.refl _ _) (Nat.le_refl _) (by simp) ?_; (case hd => rfl); (case hg => rfl); (case hr => first | (go_simp; done) | (go_simp; rfl)); (case hp => exact (Reps.one (show Kd.M (Kd.int .i64) _ _ _ a1 [.int .i64 a1] from rfl) (Reps.none _ _))); intro v426 w14 ho15 hb hg_ hnew_; clear hg_ hnew_; (first | rw [← Ny425.out] at ho15 | (simp only [Int.reduceToNat] at ho15; rw [← Ny425.out] at ho15)); have n0_ := Aside0.mk (zg_ ho15 (zw_ (by repeat (first | (with_reducible first | exact HB.out | apply zs_ | apply zt_ | apply zu_ | refine zr_ ?_ GE422.out | refine zr_ ?_ GE423.out) | exact HB.out)))); have n1_ := Aside0.mk (zq_ (g := gb422) (o := .cells #[.int .i64 a0_0, .slice A0_1 l0_1.length c0_1] 54 (0, 0)) (by (with_reducible repeat (first | refine zm_ ?_ _ | refine zn_ ?_ | refine zo_ ?_ _)); exact BK422.out) hb); have n2_ := Aside0.mk (zq_ (g := gb423) (o := .cells #[.int .i64 0, .int .i64 0] 56 (0, 0)) (by (with_reducible repeat (first | refine zm_ ?_ _ | refine zn_ ?_ | refine zo_ ?_ _)); exact BK423.out) hb); have n3_ := Aside0.mk (zv_ (by repeat (first | (with_reducible first | exact HB.out | apply zs_ | apply zt_ | apply zu_ | refine zr_ ?_ GE422.out | refine zr_ ?_ GE423.out) | exact HB.out)) hb); clear BK422; clear BK423; clear HB; have HO427 := n0_; have BK422 := n1_; have BK423 := n2_; have HB := n3_; clear n0_ n1_ n2_ n3_; clear hb ho15; obtain ⟨Ao16, co16, eo16⟩ := Kd.R_slice HO427.out; subst eo16) | ((with_reducible refine gate_callee (f := 71) rfl ?_); refine goesL_ (some 17) rfl rfl Try.func71 (by kernel_rfl) rfl #[.slice Ao16 y425.length co16] rfl (by (try simp only [List.map_toArray, List.map_cons, List.map_nil]); first | done | rfl | (simp only [List.length_drop, List.length_take]; rfl)) ?_; (with_reducible refine (clock_instants.calls _ _ y425 true _ ?side1 ?side2 A5.out).mono ?_); (case side1 => repeat (first | exact (zl_ HO427.out).2.2 | (with_reducible refine Kd.C_alloc ?_ _) | (with_reducible refine Kd.C_drewN ?_ _) | (with_reducible refine Kd.C_drew ?_))); (case side2 => exact (zl_ HO427.out).2.1); rintro e w' ⟨rfl, ⟨nd, rfl⟩⟩; refine ⟨_, rfl, ?_⟩; (try (rw [drewN_self w14]; generalize hq_ : World.drewN w14 _ = w14; have n0_ : Aside0 (Kd.R (Kd.int .i64) 3 w14 w.heap.size (fun _ => True) (.slice Ao16 y425.length co16) y425) := ⟨by rw [← hq_]; exact (by (with_reducible repeat (first | apply za_ | apply zb_ | apply zc_)); exact HO427.out)⟩; have n1_ : Aside0 (w14.heap[gb422]? = some (.cells #[.int .i64 a0_0, .slice A0_1 l0_1.length c0_1] 54 (0, 0))) := ⟨by rw [← hq_]; exact (by (with_reducible repeat (first | refine zm_ ?_ _ | refine zn_ ?_ | refine zo_ ?_ _)); exact BK422.out)⟩; have n2_ : Aside0 (w14.heap[gb423]? = some (.cells #[.int .i64 0, .int .i64 0] 56 (0, 0))) := ⟨by rw [← hq_]; exact (by (with_reducible repeat (first | refine zm_ ?_ _ | refine zn_ ?_ | refine zo_ ?_ _)); exact BK423.out)⟩; have n3_ : Aside0 (Below w.heap.size w w14) := ⟨by rw [← hq_]; exact (by repeat (first | (with_reducible first | exact HB.out | apply zs_ | apply zt_ | apply zu_ | refine zr_ ?_ GE422.out | refine zr_ ?_ GE423.out) | exact HB.out))⟩; clear HO427 BK422 BK423 HB hq_; have HO427 := n0_; have BK422 := n1_; have BK423 := n2_; have HB := n3_; clear n0_ n1_ n2_ n3_)); have hcz17_0 : w14.cell? ⟨gb422, 0, none⟩ = some (.int .i64 a0_0) := (blk_cell BK422.out 0).trans rfl; have hcz17_1 : w14.cell? ⟨gb422, 1, none⟩ = some (.slice A0_1 l0_1.length c0_1) := (blk_cell BK422.out 1).trans rfl; have hfz17_0 := blk_frozen BK422.out 0; have hfz17_1 := blk_frozen BK422.out 1) | ((with_reducible refine gate_callee (f := 74) rfl ?_); refine goesL_ (some 23) rfl rfl Try.func74 (by kernel_rfl) rfl #[.agg #[.int .i64 a0_0, .slice A0_1 l0_1.length c0_1], .int .i64 a1] rfl (by (try simp only [List.map_toArray, List.map_cons, List.map_nil]); first | done | rfl | (simp only [List.length_drop, List.length_take]; rfl)) ?_; (with_reducible refine (clock_bounds.calls a0_0 _ _ l0_1 a1 t429 t430 _ ?side1 ?side2 A7.out).mono ?_); (case side1 => repeat (first | exact (Kd.C_below HR0_1.out HB.out) | (with_reducible refine Kd.C_alloc ?_ _) | (with_reducible refine Kd.C_drewN ?_ _) | (with_reducible refine Kd.C_drew ?_))); (case side2 => exact HC0_1.out); rintro e w18 ⟨rfl, hb⟩; refine ⟨_, rfl, ?_⟩; have n0_ := Aside0.mk (Kd.R_below (by (with_reducible repeat (first | apply za_ | apply zb_ | apply zc_)); exact HO427.out) hb); have n1_ := Aside0.mk (zq_ (g := gb422) (o := .cells #[.int .i64 a0_0, .slice A0_1 l0_1.length c0_1] 54 (0, 0)) (by (with_reducible repeat (first | refine zm_ ?_ _ | refine zn_ ?_ | refine zo_ ?_ _)); exact BK422.out) hb); have n2_ := Aside0.mk (zq_ (g := gb423) (o := .cells #[.int .i64 0, .int .i64 0] 56 (0, 0)) (by (with_reducible repeat (first | refine zm_ ?_ _ | refine zn_ ?_ | refine zo_ ?_ _)); exact BK423.out) hb); have n3_ := Aside0.mk (zv_ (by repeat (first | (with_reducible first | exact HB.out | apply zs_ | apply zt_ | apply zu_ | refine zr_ ?_ GE422.out | refine zr_ ?_ GE423.out) | exact HB.out)) hb); clear HO427; clear BK422; clear BK423; clear HB; have HO427 := n0_; have BK422 := n1_; have BK423 := n2_; have HB := n3_; clear n0_ n1_ n2_ n3_; (try clear hb); (try clear hb2); (try clear hk); (try clear hi); have hcz19_0 : w18.cell? ⟨gb423, 0, none⟩ = some (.int .i64 0) := (blk_cell BK423.out 0).trans rfl; have hcz19_1 : w18.cell? ⟨gb423, 1, none⟩ = some (.int .i64 0) := (blk_cell BK423.out 1).trans rfl; have hfz19_0 := blk_frozen BK423.out 0; have hfz19_1 := blk_frozen BK423.out 1))
        refine bodyPost_ret (results_ct rfl _ _ gb423 56 #[.int .i64 0, .int .i64 0] (0, 0) _ rfl (by (with_reducible repeat (first | refine zm_ ?_ _ | refine zn_ ?_ | refine zo_ ?_ _)); refine blk_put (cs := #[.int .i64 0, .int .i64 0]) ?_ 1 _ rfl; (with_reducible repeat (first | refine zm_ ?_ _ | refine zn_ ?_ | refine zo_ ?_ _)); refine blk_put (cs := #[.int .i64 0, .int .i64 0]) ?_ 0 _ rfl; (with_reducible repeat (first | refine zm_ ?_ _ | refine zn_ ?_ | refine zo_ ?_ _)); exact BK423.out) Try.underlying56 rfl (by kernel_rfl)) rfl ?_
        exact ⟨by first | rfl | (simp [errW_none, errW_some] <;> rfl) | (simp [*, errW_none, errW_some] <;> rfl), by repeat (first | (with_reducible first | exact HB.out | apply zs_ | apply zt_ | apply zu_ | refine zr_ ?_ GE422.out | refine zr_ ?_ GE423.out) | exact HB.out)⟩
      · rw [if_neg c8] at H
        have c8b0 : decide (t430 < t429) = false := decide_eq_false c8
        clear c8
        simp only [Option.some.injEq, Prod.mk.injEq] at H
        obtain ⟨rfl, rfl, rfl⟩ := H
        go_enter Try.func39, Try.ntmps39
        go_wp2_with (first | ((with_reducible refine gate_dst (N := 2) rfl ?_); refine box_event ?hg (N := 2) ?hd (cs := #[.int .i64 a0_0, .slice A0_1 l0_1.length c0_1]) (t := 54) ?hr ?_; (case hd => rfl); (case hg => rfl); (case hr => first | (go_simp; done) | (go_simp; rfl)); intro gb422 hg w20 hbox hb; have n0_ := Aside0.mk (zv_ (by repeat (first | (with_reducible first | exact HB.out | apply zs_ | apply zt_ | apply zu_) | exact HB.out)) hb); have n1_ := Aside0.mk (hbox); have n2_ := Aside0.mk ((by rw [hg]; exact (zw_ (by repeat (first | (with_reducible first | exact HB.out | apply zs_ | apply zt_ | apply zu_) | exact HB.out))) : w.heap.size ≤ gb422)); have n3_ := Aside0.mk ((by rw [hg]; exact (zw_ (by repeat (first | (with_reducible first | exact HB.out | apply zs_ | apply zt_ | apply zu_) | exact HB.out))) : w.heap.size ≤ gb422)); clear HB; have HB := n0_; have BK422 := n1_; have GW422 := n2_; have GE422 := n3_; clear n0_ n1_ n2_ n3_; clear hb hbox hg) | ((with_reducible refine gate_dst (N := 4) rfl ?_); refine box_event ?hg (N := 4) ?hd (cs := #[.int .i64 0, .int .i64 0]) (t := 56) ?hr ?_; (case hd => rfl); (case hg => rfl); (case hr => first | (go_simp; done) | (go_simp; rfl)); intro gb423 hg w21 hbox hb; have n0_ := Aside0.mk (zq_ (g := gb422) (o := .cells #[.int .i64 a0_0, .slice A0_1 l0_1.length c0_1] 54 (0, 0)) (by (with_reducible repeat (first | refine zm_ ?_ _ | refine zn_ ?_ | refine zo_ ?_ _)); exact BK422.out) hb); have n1_ := Aside0.mk (zv_ (by repeat (first | (with_reducible first | exact HB.out | apply zs_ | apply zt_ | apply zu_ | refine zr_ ?_ GE422.out) | exact HB.out)) hb); have n2_ := Aside0.mk (hbox); have n3_ := Aside0.mk ((by rw [hg]; exact (zw_ (by repeat (first | (with_reducible first | exact HB.out | apply zs_ | apply zt_ | apply zu_ | refine zr_ ?_ GE422.out) | exact HB.out))) : w.heap.size ≤ gb423)); have n4_ := Aside0.mk ((by rw [hg]; exact (zw_ (by repeat (first | (with_reducible first | exact HB.out | apply zs_ | apply zt_ | apply zu_ | refine zr_ ?_ GE422.out) | exact HB.out))) : w.heap.size ≤ gb423)); have n5_ := Aside0.mk ((by rw [hg]; exact Nat.ne_of_lt (blk_lt (g := gb422) (o := .cells #[.int .i64 a0_0, .slice A0_1 l0_1.length c0_1] 54 (0, 0)) (by (with_reducible repeat (first | refine zm_ ?_ _ | refine zn_ ?_ | refine zo_ ?_ _)); exact BK422.out)) : gb422 ≠ gb423)); have n6_ := Aside0.mk ((by rw [hg]; exact Nat.ne_of_gt (blk_lt (g := gb422) (o := .cells #[.int .i64 a0_0, .slice A0_1 l0_1.length c0_1] 54 (0, 0)) (by (with_reducible repeat (first | refine zm_ ?_ _ | refine zn_ ?_ | refine zo_ ?_ _)); exact BK422.out)) : gb423 ≠ gb422)); clear BK422; clear HB; have BK422 := n0_; have HB := n1_; have BK423 := n2_; have GW423 := n3_; have GE423 := n4_; have NB422_423 := n5_; have NB423_422 := n6_; clear n0_ n1_ n2_ n3_ n4_ n5_ n6_; clear hb hbox hg; have hnb22 := NB422_423.out; have hnc22 := NB423_422.out; have hcz23_0 : w21.cell? ⟨gb422, 0, none⟩ = some (.int .i64 a0_0) := (blk_cell BK422.out 0).trans rfl; have hcz23_1 : w21.cell? ⟨gb422, 1, none⟩ = some (.slice A0_1 l0_1.length c0_1) := (blk_cell BK422.out 1).trans rfl; have hfz23_0 := blk_frozen BK422.out 0; have hfz23_1 := blk_frozen BK422.out 1) | ((with_reducible refine gate_callee (f := 43) rfl ?_); refine goesL_ (some 10) rfl rfl Try.func43 (by kernel_rfl) rfl #[.agg #[.int .i64 a0_0, .slice A0_1 l0_1.length c0_1]] rfl (by (try simp only [List.map_toArray, List.map_cons, List.map_nil]); first | done | rfl | (simp only [List.length_drop, List.length_take]; rfl)) ?_; (with_reducible refine (clock_Check.calls k a0_0 _ _ l0_1 t424 _ ?side1 ?side2 A3.out).mono ?_); (case side1 => repeat (first | exact (Kd.C_below HR0_1.out HB.out) | (with_reducible refine Kd.C_alloc ?_ _) | (with_reducible refine Kd.C_drewN ?_ _) | (with_reducible refine Kd.C_drew ?_))); (case side2 => exact HC0_1.out); rintro e w24 ⟨rfl, hb⟩; refine ⟨_, rfl, ?_⟩; have n0_ := Aside0.mk (zq_ (g := gb422) (o := .cells #[.int .i64 a0_0, .slice A0_1 l0_1.length c0_1] 54 (0, 0)) (by (with_reducible repeat (first | refine zm_ ?_ _ | refine zn_ ?_ | refine zo_ ?_ _)); exact BK422.out) hb); have n1_ := Aside0.mk (zq_ (g := gb423) (o := .cells #[.int .i64 0, .int .i64 0] 56 (0, 0)) (by (with_reducible repeat (first | refine zm_ ?_ _ | refine zn_ ?_ | refine zo_ ?_ _)); exact BK423.out) hb); have n2_ := Aside0.mk (zv_ (by repeat (first | (with_reducible first | exact HB.out | apply zs_ | apply zt_ | apply zu_ | refine zr_ ?_ GE422.out | refine zr_ ?_ GE423.out) | exact HB.out)) hb); clear BK422; clear BK423; clear HB; have BK422 := n0_; have BK423 := n1_; have HB := n2_; clear n0_ n1_ n2_; (try clear hb); (try clear hb2); (try clear hk); (try clear hi)) | ((with_reducible refine gate_dst (N := 16) rfl ?_); refine Kd.R_lit (Kd.int .i64) _ 3 ?hg (N := 16) ?hd (xs := ([a1] : List Int)) (inner := [.int .i64 a1]) (ok := fun _ => True) (okp := fun _ => True) ?hr ?hp (fun _ hk => hk) trivial (Below.refl _ _) (Nat.le_refl _) (by simp) ?_; (case hd => rfl); (case hg => rfl); (case hr => first | (go_simp; done) | (go_simp; rfl)); (case hp => exact (Reps.one (show Kd.M (Kd.int .i64) _ _ _ a1 [.int .i64 a1] from rfl) (Reps.none _ _))); intro v426 w25 ho26 hb hg_ hnew_; clear hg_ hnew_; (first | rw [← Ny425.out] at ho26 | (simp only [Int.reduceToNat] at ho26; rw [← Ny425.out] at ho26)); have n0_ := Aside0.mk (zg_ ho26 (zw_ (by repeat (first | (with_reducible first | exact HB.out | apply zs_ | apply zt_ | apply zu_ | refine zr_ ?_ GE422.out | refine zr_ ?_ GE423.out) | exact HB.out)))); have n1_ := Aside0.mk (zq_ (g := gb422) (o := .cells #[.int .i64 a0_0, .slice A0_1 l0_1.length c0_1] 54 (0, 0)) (by (with_reducible repeat (first | refine zm_ ?_ _ | refine zn_ ?_ | refine zo_ ?_ _)); exact BK422.out) hb); have n2_ := Aside0.mk (zq_ (g := gb423) (o := .cells #[.int .i64 0, .int .i64 0] 56 (0, 0)) (by (with_reducible repeat (first | refine zm_ ?_ _ | refine zn_ ?_ | refine zo_ ?_ _)); exact BK423.out) hb); have n3_ := Aside0.mk (zv_ (by repeat (first | (with_reducible first | exact HB.out | apply zs_ | apply zt_ | apply zu_ | refine zr_ ?_ GE422.out | refine zr_ ?_ GE423.out) | exact HB.out)) hb); clear BK422; clear BK423; clear HB; have HO427 := n0_; have BK422 := n1_; have BK423 := n2_; have HB := n3_; clear n0_ n1_ n2_ n3_; clear hb ho26; obtain ⟨Ao27, co27, eo27⟩ := Kd.R_slice HO427.out; subst eo27) | ((with_reducible refine gate_callee (f := 71) rfl ?_); refine goesL_ (some 17) rfl rfl Try.func71 (by kernel_rfl) rfl #[.slice Ao27 y425.length co27] rfl (by (try simp only [List.map_toArray, List.map_cons, List.map_nil]); first | done | rfl | (simp only [List.length_drop, List.length_take]; rfl)) ?_; (with_reducible refine (clock_instants.calls _ _ y425 true _ ?side1 ?side2 A5.out).mono ?_); (case side1 => repeat (first | exact (zl_ HO427.out).2.2 | (with_reducible refine Kd.C_alloc ?_ _) | (with_reducible refine Kd.C_drewN ?_ _) | (with_reducible refine Kd.C_drew ?_))); (case side2 => exact (zl_ HO427.out).2.1); rintro e w' ⟨rfl, ⟨nd, rfl⟩⟩; refine ⟨_, rfl, ?_⟩; (try (rw [drewN_self w25]; generalize hq_ : World.drewN w25 _ = w25; have n0_ : Aside0 (Kd.R (Kd.int .i64) 3 w25 w.heap.size (fun _ => True) (.slice Ao27 y425.length co27) y425) := ⟨by rw [← hq_]; exact (by (with_reducible repeat (first | apply za_ | apply zb_ | apply zc_)); exact HO427.out)⟩; have n1_ : Aside0 (w25.heap[gb422]? = some (.cells #[.int .i64 a0_0, .slice A0_1 l0_1.length c0_1] 54 (0, 0))) := ⟨by rw [← hq_]; exact (by (with_reducible repeat (first | refine zm_ ?_ _ | refine zn_ ?_ | refine zo_ ?_ _)); exact BK422.out)⟩; have n2_ : Aside0 (w25.heap[gb423]? = some (.cells #[.int .i64 0, .int .i64 0] 56 (0, 0))) := ⟨by rw [← hq_]; exact (by (with_reducible repeat (first | refine zm_ ?_ _ | refine zn_ ?_ | refine zo_ ?_ _)); exact BK423.out)⟩; have n3_ : Aside0 (Below w.heap.size w w25) := ⟨by rw [← hq_]; exact (by repeat (first | (with_reducible first | exact HB.out | apply zs_ | apply zt_ | apply zu_ | refine zr_ ?_ GE422.out | refine zr_ ?_ GE423.out) | exact HB.out))⟩; clear HO427 BK422 BK423 HB hq_; have HO427 := n0_; have BK422 := n1_; have BK423 := n2_; have HB := n3_; clear n0_ n1_ n2_ n3_)); have hcz28_0 : w25.cell? ⟨gb422, 0, none⟩ = some (.int .i64 a0_0) := (blk_cell BK422.out 0).trans rfl; have hcz28_1 : w25.cell? ⟨gb422, 1, none⟩ = some (.slice A0_1 l0_1.length c0_1) := (blk_cell BK422.out 1).trans rfl; have hfz28_0 := blk_frozen BK422.out 0; have hfz28_1 := blk_frozen BK422.out 1) | ((with_reducible refine gate_callee (f := 74) rfl ?_); refine goesL_ (some 23) rfl rfl Try.func74 (by kernel_rfl) rfl #[.agg #[.int .i64 a0_0, .slice A0_1 l0_1.length c0_1], .int .i64 a1] rfl (by (try simp only [List.map_toArray, List.map_cons, List.map_nil]); first | done | rfl | (simp only [List.length_drop, List.length_take]; rfl)) ?_; (with_reducible refine (clock_bounds.calls a0_0 _ _ l0_1 a1 t429 t430 _ ?side1 ?side2 A7.out).mono ?_); (case side1 => repeat (first | exact (Kd.C_below HR0_1.out HB.out) | (with_reducible refine Kd.C_alloc ?_ _) | (with_reducible refine Kd.C_drewN ?_ _) | (with_reducible refine Kd.C_drew ?_))); (case side2 => exact HC0_1.out); rintro e w29 ⟨rfl, hb⟩; refine ⟨_, rfl, ?_⟩; have n0_ := Aside0.mk (Kd.R_below (by (with_reducible repeat (first | apply za_ | apply zb_ | apply zc_)); exact HO427.out) hb); have n1_ := Aside0.mk (zq_ (g := gb422) (o := .cells #[.int .i64 a0_0, .slice A0_1 l0_1.length c0_1] 54 (0, 0)) (by (with_reducible repeat (first | refine zm_ ?_ _ | refine zn_ ?_ | refine zo_ ?_ _)); exact BK422.out) hb); have n2_ := Aside0.mk (zq_ (g := gb423) (o := .cells #[.int .i64 0, .int .i64 0] 56 (0, 0)) (by (with_reducible repeat (first | refine zm_ ?_ _ | refine zn_ ?_ | refine zo_ ?_ _)); exact BK423.out) hb); have n3_ := Aside0.mk (zv_ (by repeat (first | (with_reducible first | exact HB.out | apply zs_ | apply zt_ | apply zu_ | refine zr_ ?_ GE422.out | refine zr_ ?_ GE423.out) | exact HB.out)) hb); clear HO427; clear BK422; clear BK423; clear HB; have HO427 := n0_; have BK422 := n1_; have BK423 := n2_; have HB := n3_; clear n0_ n1_ n2_ n3_; (try clear hb); (try clear hb2); (try clear hk); (try clear hi); have hcz30_0 : w29.cell? ⟨gb423, 0, none⟩ = some (.int .i64 0) := (blk_cell BK423.out 0).trans rfl; have hcz30_1 : w29.cell? ⟨gb423, 1, none⟩ = some (.int .i64 0) := (blk_cell BK423.out 1).trans rfl; have hfz30_0 := blk_frozen BK423.out 0; have hfz30_1 := blk_frozen BK423.out 1))
        refine bodyPost_ret (results_ct rfl _ _ gb423 56 #[.int .i64 t429, .int .i64 t430] (0, 0) _ rfl (by (with_reducible repeat (first | refine zm_ ?_ _ | refine zn_ ?_ | refine zo_ ?_ _)); refine blk_put (cs := #[.int .i64 t429, .int .i64 0]) ?_ 1 _ rfl; (with_reducible repeat (first | refine zm_ ?_ _ | refine zn_ ?_ | refine zo_ ?_ _)); refine blk_put (cs := #[.int .i64 0, .int .i64 0]) ?_ 0 _ rfl; (with_reducible repeat (first | refine zm_ ?_ _ | refine zn_ ?_ | refine zo_ ?_ _)); exact BK423.out) Try.underlying56 rfl (by kernel_rfl)) rfl ?_
        exact ⟨by first | rfl | (simp [errW_none, errW_some] <;> rfl) | (simp [*, errW_none, errW_some] <;> rfl), by repeat (first | (with_reducible first | exact HB.out | apply zs_ | apply zt_ | apply zu_ | refine zr_ ?_ GE422.out | refine zr_ ?_ GE423.out) | exact HB.out)⟩
    · replace c6 := Bool.eq_false_iff.mpr c6
      subst c6
      have H1 : (some (0, 0, 3)) = some (r1, r2, r3) := by rw [if_neg (show ¬ (false = true) by decide)] at H; exact H
      clear H
      have H := H1
      clear H1
      simp only [Option.some.injEq, Prod.mk.injEq] at H
      obtain ⟨rfl, rfl, rfl⟩ := H
      go_enter Try.func39, Try.ntmps39
      go_wp2_with (first | ((with_reducible refine gate_dst (N := 2) rfl ?_); refine box_event ?hg (N := 2) ?hd (cs := #[.int .i64 a0_0, .slice A0_1 l0_1.length c0_1]) (t := 54) ?hr ?_; (case hd => rfl); (case hg => rfl); (case hr => first | (go_simp; done) | (go_simp; rfl)); intro gb422 hg w31 hbox hb; have n0_ := Aside0.mk (zv_ (by repeat (first | (with_reducible first | exact HB.out | apply zs_ | apply zt_ | apply zu_) | exact HB.out)) hb); have n1_ := Aside0.mk (hbox); have n2_ := Aside0.mk ((by rw [hg]; exact (zw_ (by repeat (first | (with_reducible first | exact HB.out | apply zs_ | apply zt_ | apply zu_) | exact HB.out))) : w.heap.size ≤ gb422)); have n3_ := Aside0.mk ((by rw [hg]; exact (zw_ (by repeat (first | (with_reducible first | exact HB.out | apply zs_ | apply zt_ | apply zu_) | exact HB.out))) : w.heap.size ≤ gb422)); clear HB; have HB := n0_; have BK422 := n1_; have GW422 := n2_; have GE422 := n3_; clear n0_ n1_ n2_ n3_; clear hb hbox hg) | ((with_reducible refine gate_dst (N := 4) rfl ?_); refine box_event ?hg (N := 4) ?hd (cs := #[.int .i64 0, .int .i64 0]) (t := 56) ?hr ?_; (case hd => rfl); (case hg => rfl); (case hr => first | (go_simp; done) | (go_simp; rfl)); intro gb423 hg w32 hbox hb; have n0_ := Aside0.mk (zq_ (g := gb422) (o := .cells #[.int .i64 a0_0, .slice A0_1 l0_1.length c0_1] 54 (0, 0)) (by (with_reducible repeat (first | refine zm_ ?_ _ | refine zn_ ?_ | refine zo_ ?_ _)); exact BK422.out) hb); have n1_ := Aside0.mk (zv_ (by repeat (first | (with_reducible first | exact HB.out | apply zs_ | apply zt_ | apply zu_ | refine zr_ ?_ GE422.out) | exact HB.out)) hb); have n2_ := Aside0.mk (hbox); have n3_ := Aside0.mk ((by rw [hg]; exact (zw_ (by repeat (first | (with_reducible first | exact HB.out | apply zs_ | apply zt_ | apply zu_ | refine zr_ ?_ GE422.out) | exact HB.out))) : w.heap.size ≤ gb423)); have n4_ := Aside0.mk ((by rw [hg]; exact (zw_ (by repeat (first | (with_reducible first | exact HB.out | apply zs_ | apply zt_ | apply zu_ | refine zr_ ?_ GE422.out) | exact HB.out))) : w.heap.size ≤ gb423)); have n5_ := Aside0.mk ((by rw [hg]; exact Nat.ne_of_lt (blk_lt (g := gb422) (o := .cells #[.int .i64 a0_0, .slice A0_1 l0_1.length c0_1] 54 (0, 0)) (by (with_reducible repeat (first | refine zm_ ?_ _ | refine zn_ ?_ | refine zo_ ?_ _)); exact BK422.out)) : gb422 ≠ gb423)); have n6_ := Aside0.mk ((by rw [hg]; exact Nat.ne_of_gt (blk_lt (g := gb422) (o := .cells #[.int .i64 a0_0, .slice A0_1 l0_1.length c0_1] 54 (0, 0)) (by (with_reducible repeat (first | refine zm_ ?_ _ | refine zn_ ?_ | refine zo_ ?_ _)); exact BK422.out)) : gb423 ≠ gb422)); clear BK422; clear HB; have BK422 := n0_; have HB := n1_; have BK423 := n2_; have GW423 := n3_; have GE423 := n4_; have NB422_423 := n5_; have NB423_422 := n6_; clear n0_ n1_ n2_ n3_ n4_ n5_ n6_; clear hb hbox hg; have hnb33 := NB422_423.out; have hnc33 := NB423_422.out; have hcz34_0 : w32.cell? ⟨gb422, 0, none⟩ = some (.int .i64 a0_0) := (blk_cell BK422.out 0).trans rfl; have hcz34_1 : w32.cell? ⟨gb422, 1, none⟩ = some (.slice A0_1 l0_1.length c0_1) := (blk_cell BK422.out 1).trans rfl; have hfz34_0 := blk_frozen BK422.out 0; have hfz34_1 := blk_frozen BK422.out 1) | ((with_reducible refine gate_callee (f := 43) rfl ?_); refine goesL_ (some 10) rfl rfl Try.func43 (by kernel_rfl) rfl #[.agg #[.int .i64 a0_0, .slice A0_1 l0_1.length c0_1]] rfl (by (try simp only [List.map_toArray, List.map_cons, List.map_nil]); first | done | rfl | (simp only [List.length_drop, List.length_take]; rfl)) ?_; (with_reducible refine (clock_Check.calls k a0_0 _ _ l0_1 t424 _ ?side1 ?side2 A3.out).mono ?_); (case side1 => repeat (first | exact (Kd.C_below HR0_1.out HB.out) | (with_reducible refine Kd.C_alloc ?_ _) | (with_reducible refine Kd.C_drewN ?_ _) | (with_reducible refine Kd.C_drew ?_))); (case side2 => exact HC0_1.out); rintro e w35 ⟨rfl, hb⟩; refine ⟨_, rfl, ?_⟩; have n0_ := Aside0.mk (zq_ (g := gb422) (o := .cells #[.int .i64 a0_0, .slice A0_1 l0_1.length c0_1] 54 (0, 0)) (by (with_reducible repeat (first | refine zm_ ?_ _ | refine zn_ ?_ | refine zo_ ?_ _)); exact BK422.out) hb); have n1_ := Aside0.mk (zq_ (g := gb423) (o := .cells #[.int .i64 0, .int .i64 0] 56 (0, 0)) (by (with_reducible repeat (first | refine zm_ ?_ _ | refine zn_ ?_ | refine zo_ ?_ _)); exact BK423.out) hb); have n2_ := Aside0.mk (zv_ (by repeat (first | (with_reducible first | exact HB.out | apply zs_ | apply zt_ | apply zu_ | refine zr_ ?_ GE422.out | refine zr_ ?_ GE423.out) | exact HB.out)) hb); clear BK422; clear BK423; clear HB; have BK422 := n0_; have BK423 := n1_; have HB := n2_; clear n0_ n1_ n2_; (try clear hb); (try clear hb2); (try clear hk); (try clear hi)) | ((with_reducible refine gate_dst (N := 16) rfl ?_); refine Kd.R_lit (Kd.int .i64) _ 3 ?hg (N := 16) ?hd (xs := ([a1] : List Int)) (inner := [.int .i64 a1]) (ok := fun _ => True) (okp := fun _ => True) ?hr ?hp (fun _ hk => hk) trivial (Below.refl _ _) (Nat.le_refl _) (by simp) ?_; (case hd => rfl); (case hg => rfl); (case hr => first | (go_simp; done) | (go_simp; rfl)); (case hp => exact (Reps.one (show Kd.M (Kd.int .i64) _ _ _ a1 [.int .i64 a1] from rfl) (Reps.none _ _))); intro v426 w36 ho37 hb hg_ hnew_; clear hg_ hnew_; (first | rw [← Ny425.out] at ho37 | (simp only [Int.reduceToNat] at ho37; rw [← Ny425.out] at ho37)); have n0_ := Aside0.mk (zg_ ho37 (zw_ (by repeat (first | (with_reducible first | exact HB.out | apply zs_ | apply zt_ | apply zu_ | refine zr_ ?_ GE422.out | refine zr_ ?_ GE423.out) | exact HB.out)))); have n1_ := Aside0.mk (zq_ (g := gb422) (o := .cells #[.int .i64 a0_0, .slice A0_1 l0_1.length c0_1] 54 (0, 0)) (by (with_reducible repeat (first | refine zm_ ?_ _ | refine zn_ ?_ | refine zo_ ?_ _)); exact BK422.out) hb); have n2_ := Aside0.mk (zq_ (g := gb423) (o := .cells #[.int .i64 0, .int .i64 0] 56 (0, 0)) (by (with_reducible repeat (first | refine zm_ ?_ _ | refine zn_ ?_ | refine zo_ ?_ _)); exact BK423.out) hb); have n3_ := Aside0.mk (zv_ (by repeat (first | (with_reducible first | exact HB.out | apply zs_ | apply zt_ | apply zu_ | refine zr_ ?_ GE422.out | refine zr_ ?_ GE423.out) | exact HB.out)) hb); clear BK422; clear BK423; clear HB; have HO427 := n0_; have BK422 := n1_; have BK423 := n2_; have HB := n3_; clear n0_ n1_ n2_ n3_; clear hb ho37; obtain ⟨Ao38, co38, eo38⟩ := Kd.R_slice HO427.out; subst eo38) | ((with_reducible refine gate_callee (f := 71) rfl ?_); refine goesL_ (some 17) rfl rfl Try.func71 (by kernel_rfl) rfl #[.slice Ao38 y425.length co38] rfl (by (try simp only [List.map_toArray, List.map_cons, List.map_nil]); first | done | rfl | (simp only [List.length_drop, List.length_take]; rfl)) ?_; (with_reducible refine (clock_instants.calls _ _ y425 false _ ?side1 ?side2 A5.out).mono ?_); (case side1 => repeat (first | exact (zl_ HO427.out).2.2 | (with_reducible refine Kd.C_alloc ?_ _) | (with_reducible refine Kd.C_drewN ?_ _) | (with_reducible refine Kd.C_drew ?_))); (case side2 => exact (zl_ HO427.out).2.1); rintro e w' ⟨rfl, ⟨nd, rfl⟩⟩; refine ⟨_, rfl, ?_⟩; (try (rw [drewN_self w36]; generalize hq_ : World.drewN w36 _ = w36; have n0_ : Aside0 (Kd.R (Kd.int .i64) 3 w36 w.heap.size (fun _ => True) (.slice Ao38 y425.length co38) y425) := ⟨by rw [← hq_]; exact (by (with_reducible repeat (first | apply za_ | apply zb_ | apply zc_)); exact HO427.out)⟩; have n1_ : Aside0 (w36.heap[gb422]? = some (.cells #[.int .i64 a0_0, .slice A0_1 l0_1.length c0_1] 54 (0, 0))) := ⟨by rw [← hq_]; exact (by (with_reducible repeat (first | refine zm_ ?_ _ | refine zn_ ?_ | refine zo_ ?_ _)); exact BK422.out)⟩; have n2_ : Aside0 (w36.heap[gb423]? = some (.cells #[.int .i64 0, .int .i64 0] 56 (0, 0))) := ⟨by rw [← hq_]; exact (by (with_reducible repeat (first | refine zm_ ?_ _ | refine zn_ ?_ | refine zo_ ?_ _)); exact BK423.out)⟩; have n3_ : Aside0 (Below w.heap.size w w36) := ⟨by rw [← hq_]; exact (by repeat (first | (with_reducible first | exact HB.out | apply zs_ | apply zt_ | apply zu_ | refine zr_ ?_ GE422.out | refine zr_ ?_ GE423.out) | exact HB.out))⟩; clear HO427 BK422 BK423 HB hq_; have HO427 := n0_; have BK422 := n1_; have BK423 := n2_; have HB := n3_; clear n0_ n1_ n2_ n3_)); have hcz39_0 : w36.cell? ⟨gb423, 0, none⟩ = some (.int .i64 0) := (blk_cell BK423.out 0).trans rfl; have hcz39_1 : w36.cell? ⟨gb423, 1, none⟩ = some (.int .i64 0) := (blk_cell BK423.out 1).trans rfl; have hfz39_0 := blk_frozen BK423.out 0; have hfz39_1 := blk_frozen BK423.out 1))
      refine bodyPost_ret (results_ct rfl _ _ gb423 56 #[.int .i64 0, .int .i64 0] (0, 0) _ rfl (by (with_reducible repeat (first | refine zm_ ?_ _ | refine zn_ ?_ | refine zo_ ?_ _)); refine blk_put (cs := #[.int .i64 0, .int .i64 0]) ?_ 1 _ rfl; (with_reducible repeat (first | refine zm_ ?_ _ | refine zn_ ?_ | refine zo_ ?_ _)); refine blk_put (cs := #[.int .i64 0, .int .i64 0]) ?_ 0 _ rfl; (with_reducible repeat (first | refine zm_ ?_ _ | refine zn_ ?_ | refine zo_ ?_ _)); exact BK423.out) Try.underlying56 rfl (by kernel_rfl)) rfl ?_
      exact ⟨by first | rfl | (simp [errW_none, errW_some] <;> rfl) | (simp [*, errW_none, errW_some] <;> rfl), by repeat (first | (with_reducible first | exact HB.out | apply zs_ | apply zt_ | apply zu_ | refine zr_ ?_ GE422.out | refine zr_ ?_ GE423.out) | exact HB.out)⟩
  · rw [if_neg c4] at H
    have c4b0 : (t424 == 0) = false := beq_eq_false_iff_ne.mpr c4
    have c4b1 : (t424 != 0) = true := bne_iff_ne.mpr c4
    simp only [Option.some.injEq, Prod.mk.injEq] at H
    obtain ⟨rfl, rfl, rfl⟩ := H
    go_enter Try.func39, Try.ntmps39
    go_wp2_with (first | ((with_reducible refine gate_dst (N := 2) rfl ?_); refine box_event ?hg (N := 2) ?hd (cs := #[.int .i64 a0_0, .slice A0_1 l0_1.length c0_1]) (t := 54) ?hr ?_; (case hd => rfl); (case hg => rfl); (case hr => first | (go_simp; done) | (go_simp; rfl)); intro gb422 hg w40 hbox hb; have n0_ := Aside0.mk (zv_ (by repeat (first | (with_reducible first | exact HB.out | apply zs_ | apply zt_ | apply zu_) | exact HB.out)) hb); have n1_ := Aside0.mk (hbox); have n2_ := Aside0.mk ((by rw [hg]; exact (zw_ (by repeat (first | (with_reducible first | exact HB.out | apply zs_ | apply zt_ | apply zu_) | exact HB.out))) : w.heap.size ≤ gb422)); have n3_ := Aside0.mk ((by rw [hg]; exact (zw_ (by repeat (first | (with_reducible first | exact HB.out | apply zs_ | apply zt_ | apply zu_) | exact HB.out))) : w.heap.size ≤ gb422)); clear HB; have HB := n0_; have BK422 := n1_; have GW422 := n2_; have GE422 := n3_; clear n0_ n1_ n2_ n3_; clear hb hbox hg) | ((with_reducible refine gate_dst (N := 4) rfl ?_); refine box_event ?hg (N := 4) ?hd (cs := #[.int .i64 0, .int .i64 0]) (t := 56) ?hr ?_; (case hd => rfl); (case hg => rfl); (case hr => first | (go_simp; done) | (go_simp; rfl)); intro gb423 hg w41 hbox hb; have n0_ := Aside0.mk (zq_ (g := gb422) (o := .cells #[.int .i64 a0_0, .slice A0_1 l0_1.length c0_1] 54 (0, 0)) (by (with_reducible repeat (first | refine zm_ ?_ _ | refine zn_ ?_ | refine zo_ ?_ _)); exact BK422.out) hb); have n1_ := Aside0.mk (zv_ (by repeat (first | (with_reducible first | exact HB.out | apply zs_ | apply zt_ | apply zu_ | refine zr_ ?_ GE422.out) | exact HB.out)) hb); have n2_ := Aside0.mk (hbox); have n3_ := Aside0.mk ((by rw [hg]; exact (zw_ (by repeat (first | (with_reducible first | exact HB.out | apply zs_ | apply zt_ | apply zu_ | refine zr_ ?_ GE422.out) | exact HB.out))) : w.heap.size ≤ gb423)); have n4_ := Aside0.mk ((by rw [hg]; exact (zw_ (by repeat (first | (with_reducible first | exact HB.out | apply zs_ | apply zt_ | apply zu_ | refine zr_ ?_ GE422.out) | exact HB.out))) : w.heap.size ≤ gb423)); have n5_ := Aside0.mk ((by rw [hg]; exact Nat.ne_of_lt (blk_lt (g := gb422) (o := .cells #[.int .i64 a0_0, .slice A0_1 l0_1.length c0_1] 54 (0, 0)) (by (with_reducible repeat (first | refine zm_ ?_ _ | refine zn_ ?_ | refine zo_ ?_ _)); exact BK422.out)) : gb422 ≠ gb423)); have n6_ := Aside0.mk ((by rw [hg]; exact Nat.ne_of_gt (blk_lt (g := gb422) (o := .cells #[.int .i64 a0_0, .slice A0_1 l0_1.length c0_1] 54 (0, 0)) (by (with_reducible repeat (first | refine zm_ ?_ _ | refine zn_ ?_ | refine zo_ ?_ _)); exact BK422.out)) : gb423 ≠ gb422)); clear BK422; clear HB; have BK422 := n0_; have HB := n1_; have BK423 := n2_; have GW423 := n3_; have GE423 := n4_; have NB422_423 := n5_; have NB423_422 := n6_; clear n0_ n1_ n2_ n3_ n4_ n5_ n6_; clear hb hbox hg; have hnb42 := NB422_423.out; have hnc42 := NB423_422.out; have hcz43_0 : w41.cell? ⟨gb422, 0, none⟩ = some (.int .i64 a0_0) := (blk_cell BK422.out 0).trans rfl; have hcz43_1 : w41.cell? ⟨gb422, 1, none⟩ = some (.slice A0_1 l0_1.length c0_1) := (blk_cell BK422.out 1).trans rfl; have hfz43_0 := blk_frozen BK422.out 0; have hfz43_1 := blk_frozen BK422.out 1) | ((with_reducible refine gate_callee (f := 43) rfl ?_); refine goesL_ (some 10) rfl rfl Try.func43 (by kernel_rfl) rfl #[.agg #[.int .i64 a0_0, .slice A0_1 l0_1.length c0_1]] rfl (by (try simp only [List.map_toArray, List.map_cons, List.map_nil]); first | done | rfl | (simp only [List.length_drop, List.length_take]; rfl)) ?_; (with_reducible refine (clock_Check.calls k a0_0 _ _ l0_1 t424 _ ?side1 ?side2 A3.out).mono ?_); (case side1 => repeat (first | exact (Kd.C_below HR0_1.out HB.out) | (with_reducible refine Kd.C_alloc ?_ _) | (with_reducible refine Kd.C_drewN ?_ _) | (with_reducible refine Kd.C_drew ?_))); (case side2 => exact HC0_1.out); rintro e w44 ⟨rfl, hb⟩; refine ⟨_, rfl, ?_⟩; have n0_ := Aside0.mk (zq_ (g := gb422) (o := .cells #[.int .i64 a0_0, .slice A0_1 l0_1.length c0_1] 54 (0, 0)) (by (with_reducible repeat (first | refine zm_ ?_ _ | refine zn_ ?_ | refine zo_ ?_ _)); exact BK422.out) hb); have n1_ := Aside0.mk (zq_ (g := gb423) (o := .cells #[.int .i64 0, .int .i64 0] 56 (0, 0)) (by (with_reducible repeat (first | refine zm_ ?_ _ | refine zn_ ?_ | refine zo_ ?_ _)); exact BK423.out) hb); have n2_ := Aside0.mk (zv_ (by repeat (first | (with_reducible first | exact HB.out | apply zs_ | apply zt_ | apply zu_ | refine zr_ ?_ GE422.out | refine zr_ ?_ GE423.out) | exact HB.out)) hb); clear BK422; clear BK423; clear HB; have BK422 := n0_; have BK423 := n1_; have HB := n2_; clear n0_ n1_ n2_; (try clear hb); (try clear hb2); (try clear hk); (try clear hi); have hcz45_0 : w44.cell? ⟨gb423, 0, none⟩ = some (.int .i64 0) := (blk_cell BK423.out 0).trans rfl; have hcz45_1 : w44.cell? ⟨gb423, 1, none⟩ = some (.int .i64 0) := (blk_cell BK423.out 1).trans rfl; have hfz45_0 := blk_frozen BK423.out 0; have hfz45_1 := blk_frozen BK423.out 1))
    refine bodyPost_ret (results_ct rfl _ _ gb423 56 #[.int .i64 0, .int .i64 0] (0, 0) _ rfl (by (with_reducible repeat (first | refine zm_ ?_ _ | refine zn_ ?_ | refine zo_ ?_ _)); refine blk_put (cs := #[.int .i64 0, .int .i64 0]) ?_ 1 _ rfl; (with_reducible repeat (first | refine zm_ ?_ _ | refine zn_ ?_ | refine zo_ ?_ _)); refine blk_put (cs := #[.int .i64 0, .int .i64 0]) ?_ 0 _ rfl; (with_reducible repeat (first | refine zm_ ?_ _ | refine zn_ ?_ | refine zo_ ?_ _)); exact BK423.out) Try.underlying56 rfl (by kernel_rfl)) rfl ?_
    exact ⟨by first | rfl | (simp [errW_none, errW_some] <;> rfl) | (simp [*, errW_none, errW_some] <;> rfl), by repeat (first | (with_reducible first | exact HB.out | apply zs_ | apply zt_ | apply zu_ | refine zr_ ?_ GE422.out | refine zr_ ?_ GE423.out) | exact HB.out)⟩
end Go.Proofs.Yteknbadjfojmbaa.QA
