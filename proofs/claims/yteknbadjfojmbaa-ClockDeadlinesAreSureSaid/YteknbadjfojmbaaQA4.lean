-- What this claim does not use was left out by prune.py, a program of this session.
import Derived.Test.YteknbadjfojmbaaQA0
namespace Go.Proofs.Yteknbadjfojmbaa.QA
open Go.RowKit Go.Proofs.YteknbadjfojmbaaW.PrintWords Go.Proofs.YteknbadjfojmbaaW.PrintLast Go.Proofs.YteknbadjfojmbaaW.PrintMore
attribute [local go_sem] max2_int min2_int max_two min_two max_three min_three max_four min_four
set_option linter.unusedVariables false
set_option linter.unusedSimpArgs false
section
variable {P : Program} {ops : Array Oper} {Q : Exit → Act → World → Prop} {md : Region.Mode} {S : World → Prop} {ds : List Nat}
end
section
variable {P : Program} {ops : Array Oper} {Q : Exit → Act → World → Prop}
end
section
variable {F : Fence} {n : Nat} {P : Program} {ops : Array Oper} {Q : Exit → Act → World → Prop} {md : Region.Mode} {S : World → Prop}
theorem yieldsIf_wpOpIn {i : Nat} {o : Oper} {v : Value} {a : Act} (hF : ∀ f, F.fn f) (hnd : ∀ c, o.op ≠ .defer c) (hi : ops[i]? = some o) (hy : YieldsIf P ops S o v a)
    {K : Act → World → Prop} {w : World} (hS : S w) (h : K (a.put o.dst v) w) : wpOpIn F n P ops Q i K a w := by
  unfold Go.wpOpIn
  simp only [hi]
  rcases hy with ⟨hw, hv⟩ | ⟨hw, rfl⟩
  · simp only [hw, if_true, Oper.wpIn, Oper.semAt_plain F _ _ hnd, hv w hS, Oper.uponIn]; exact ⟨fun f _ => hF f, h⟩
  · simp only [hw, Bool.false_eq_true, if_false]; exact ⟨fun f _ => hF f, h⟩
theorem wpOpIn_putIf {j : Nat} {oi oj : Oper} {v : Value} (hF : ∀ f, F.fn f) (hnd : ∀ c, oj.op ≠ .defer c) (hj : ops[j]? = some oj) (hap : oi.apart ops oj = true)
    (hsi : ∀ cs b, oi.op ≠ .select cs b) (hsj : ∀ cs b, oj.op ≠ .select cs b)
    (hQ : ∀ c a w, Q (.panic c) (a.put oi.dst v) w → Q (.panic c) a w) {K : Act → World → Prop} {a : Act} {w : World}
    (hy : YieldsIf P ops S oi v a) (h : wpOpIn F n P ops Q j K (a.put oi.dst v) w) :
    wpOpIn F n P ops Q j (fun a' w' => YieldsIf P ops S oi v a' ∧ K (a'.put oi.dst v) w') a w := by
  obtain ⟨h1, h2, h3⟩ := Oper.apart_spec hap
  have keep : ∀ (a : Act), YieldsIf P ops S oi v a → ∀ u, YieldsIf P ops S oi v (a.put oj.dst u) := fun a hy u =>
    hy.of_same (execOp_put oi hsi a oj.dst u h3) (wanted_put oi a oj.dst u h3)
  have keepD : ∀ d, YieldsIf P ops S oi v { a with defers := d :: a.defers } := fun d => hy.of_same rfl rfl
  unfold wpOpIn at *
  simp only [hj] at *
  rw [wanted_put oj a oi.dst v h1, about_put oj w a oi.dst v h1] at h
  split
  · rename_i hw
    simp only [hw, if_true] at h
    unfold Oper.wpIn at *
    refine ⟨fun f _ => hF f, ?_⟩
    have h := h.2
    rw [Oper.semAt_plain F _ _ hnd, execOp_put oj hsj a oi.dst v h1] at h
    rw [Oper.semAt_plain F _ _ hnd]
    generalize (execOp a.eval oj).run P w = r at *
    cases r with
    | ok x w' =>
      cases x <;> simp only [Oper.uponIn] at h ⊢
      case value u => exact ⟨keep a hy u, by rw [← Act.put_comm a v u h2]; exact h⟩
      case skip => exact ⟨keep a hy _, by rw [← Act.put_comm a v undef h2]; exact h⟩
      case defer d =>
        refine ⟨keep _ (keepD d) _, ?_⟩
        rw [← Act.put_comm _ v undef h2, ← Act.put_defers]
        exact h
      case enter f args =>
        refine ⟨h.1, CallsIn.mono h.2 fun e w'' he => ?_⟩
        cases e with
        | returned u => exact ⟨keep a hy u, by rw [← Act.put_comm a v u h2]; exact he⟩
        | panicked c => exact hQ _ _ _ he
        | outgrown => exact he
      case row row args => exact ⟨h.1, RowsIn.mono h.2 fun u w'' he => ⟨keep a hy u, by rw [← Act.put_comm a v u h2]; exact he⟩⟩
      case round l f tmps assign body =>
        refine ⟨h.1, RoundIn.mono h.2 fun e w'' he => ?_⟩
        cases e with
        | returned u => exact ⟨keep a hy u, by rw [← Act.put_comm a v u h2]; exact he⟩
        | panicked c => exact hQ _ _ _ he
        | outgrown => exact he
    | halt x w' =>
      cases x <;> simp only [Oper.uponIn] at h ⊢
      case panic u => exact hQ _ _ _ h
  · rename_i hw
    simp only [hw] at h
    exact ⟨fun f _ => hF f, keep a hy _, by rw [← Act.put_comm a v undef h2]; exact h.2⟩
def wpAnyHI (F : Fence) (n : Nat) (P : Program) (md : Region.Mode) (ops : Array Oper) (Q : Exit → Act → World → Prop) (S : World → Prop) (m : Nat) : Nat → Array Bool → Act → World → Prop
  | 0, listed, a, w => Region.ready md ops listed = [] ∧ Q .normal a w
  | fuel + 1, listed, a, w =>
    (Region.ready md ops listed = [] → Q .normal a w) ∧
    ∀ i ∈ Region.ready md ops listed, wpOpIn F n P ops Q i (fun a' w' => if i = m then wpAnyIn F n P md ops Q fuel (listed.setIfInBounds i true) a' w' else S w' ∧ wpAnyHI F n P md ops Q S m fuel (listed.setIfInBounds i true) a' w') a w
theorem wpAnyIn_of_held {m : Nat} : ∀ (fuel : Nat) (listed : Array Bool) (a : Act) (w : World), wpAnyHI F n P md ops Q S m fuel listed a w → wpAnyIn F n P md ops Q fuel listed a w
  | 0, _, _, _, h => h
  | fuel + 1, _, _, _, h => ⟨h.1, fun i hi => wpOpIn_mono (fun a' w' h' => by
      by_cases e : i = m
      · rw [if_pos e] at h'; exact h'
      · rw [if_neg e] at h'; exact wpAnyIn_of_held fuel _ a' w' h'.2) (h.2 i hi)⟩
def ClosedL (md : Region.Mode) (ops : Array Oper) (listed : Array Bool) : Prop := ∀ (k : Nat) (ok : Oper), ops[k]? = some ok → listed[k]? = some true → ∀ e ∈ ok.after, Region.binds md e = true → listed[e.on]? = some true
def needsL (md : Region.Mode) (ops : Array Oper) : Nat → Nat → Nat → Bool
  | 0, _, _ => false
  | f + 1, m, i => match ops[m]? with | none => false | some o => o.after.any (fun e => Region.binds md e && (e.on == i || needsL md ops f e.on i))
theorem needsL_spec {listed : Array Bool} (hc : ClosedL md ops listed) {i : Nat} : ∀ (f m : Nat), needsL md ops f m i = true → (∀ o, ops[m]? = some o → ∀ e ∈ o.after, Region.binds md e = true → listed[e.on]? = some true) → listed[i]? = some true
  | 0, _, h, _ => by simp [needsL] at h
  | f + 1, m, h, ha => by
    unfold needsL at h
    split at h
    · cases h
    · rename_i o ho
      obtain ⟨k, hk, he⟩ := Array.any_eq_true.1 h
      simp only [Bool.and_eq_true, Bool.or_eq_true, beq_iff_eq] at he
      have h1 := ha o ho _ (Array.getElem_mem hk) he.1
      rcases he.2 with e1 | e1
      · rw [← e1]; exact h1
      · exact needsL_spec hc f _ e1 (fun o2 ho2 e2 he2 hb2 => hc _ o2 ho2 h1 e2 he2 hb2)
theorem ready_getD {listed : Array Bool} {i : Nat} (h : i ∈ Region.ready md ops listed) : listed.getD i true = false ∧ ∀ o, ops[i]? = some o → ∀ e ∈ o.after, Region.binds md e = true → listed[e.on]? = some true := by
  obtain ⟨h1, o, ho, hall⟩ := mem_ready.1 h
  refine ⟨h1, fun o' ho' e he hb => ?_⟩
  rw [ho] at ho'
  cases ho'
  have h2 := hall e he hb
  rcases Nat.lt_or_ge e.on listed.size with h' | h'
  · simp [h'] at h2 ⊢; exact h2
  · simp [Array.getElem?_eq_none h'] at h2
theorem closedL_set {listed : Array Bool} {j : Nat} (hc : ClosedL md ops listed) (hj : j ∈ Region.ready md ops listed) : ClosedL md ops (listed.setIfInBounds j true) := by
  obtain ⟨h1, h2⟩ := ready_getD hj
  intro k ok hk hl e he hb
  have h3 : listed[e.on]? = some true := by
    by_cases hjk : j = k
    · subst hjk; exact h2 ok hk e he hb
    · rw [Array.getElem?_setIfInBounds_ne hjk] at hl; exact hc k ok hk hl e he hb
  by_cases hje : j = e.on
  · rw [← hje] at h3
    rw [Array.getD_eq_getD_getElem?, h3] at h1
    cases h1
  · rw [Array.getElem?_setIfInBounds_ne hje]; exact h3
theorem closedL_none (k : Nat) : ClosedL md ops (Array.replicate k false) := by
  intro j oj _ hl
  exfalso
  rw [Array.getElem?_replicate] at hl
  split at hl <;> simp at hl
theorem wpAnyHI_first {i m : Nat} {oi : Oper} {v : Value} (hF : ∀ f, F.fn f) (hnd : ∀ (j : Nat) (o : Oper) c, ops[j]? = some o → o.op ≠ .defer c) (hi : ops[i]? = some oi) (hsel : ∀ (j : Nat) (o : Oper) cs b, ops[j]? = some o → o.op ≠ .select cs b)
    (hQ : ∀ c a w, Q (.panic c) (a.put oi.dst v) w → Q (.panic c) a w) (him : i ≠ m) (hm : ∀ listed, ClosedL md ops listed → m ∈ Region.ready md ops listed → listed[i]? = some true) :
    ∀ (fuel : Nat) (listed : Array Bool) (a : Act) (w : World), ClosedL md ops listed →
      (∀ j oj, ops[j]? = some oj → j ≠ i → listed.getD j true = false → (∀ e ∈ oj.after, Region.binds md e = true → e.on ≠ i) → oi.apart ops oj = true) →
      i ∈ Region.ready md ops listed → YieldsIf P ops S oi v a → S w →
      wpAnyHI F n P md ops Q S m fuel (listed.setIfInBounds i true) (a.put oi.dst v) w → wpAnyHI F n P md ops Q S m (fuel + 1) listed a w := by
  intro fuel
  induction fuel with
  | zero =>
    intro listed a w _ _ hr hy hS H
    refine ⟨fun h => (by rw [h] at hr; cases hr), fun j hj => ?_⟩
    by_cases hji : j = i
    · subst hji; exact yieldsIf_wpOpIn hF (fun c => hnd _ _ c hi) hi hy hS (by rw [if_neg him]; exact ⟨hS, H⟩)
    · have := ready_mono hj hji
      rw [H.1] at this
      cases this
  | succ fuel ih =>
    intro listed a w hcl hfree hr hy hS H
    refine ⟨fun h => (by rw [h] at hr; cases hr), fun j hj => ?_⟩
    by_cases hji : j = i
    · subst hji; exact yieldsIf_wpOpIn hF (fun c => hnd _ _ c hi) hi hy hS (by rw [if_neg him]; exact ⟨hS, H⟩)
    · have hjm : j ≠ m := by
        intro e
        subst e
        have h5 := hm listed hcl hj
        have h6 := (ready_getD hr).1
        rw [Array.getD_eq_getD_getElem?, h5] at h6
        cases h6
      have h1 := H.2 j (ready_mono hj hji)
      simp only [if_neg hjm] at h1
      obtain ⟨hjun, oj, hoj, hall⟩ := mem_ready.1 hj
      have hnot : ∀ e ∈ oj.after, Region.binds md e = true → e.on ≠ i := fun e he hb heq => by
        have h1 := hall e he hb
        have h0 := (mem_ready.1 hr).1
        rw [heq] at h1
        rcases Nat.lt_or_ge i listed.size with h' | h'
        · simp [h'] at h0 h1; rw [h0] at h1; cases h1
        · simp [Array.getElem?_eq_none h'] at h1
      have h2 := wpOpIn_putIf hF (fun c => hnd _ _ c hoj) hoj (hfree j oj hoj hji hjun hnot) (fun cs b => hsel i oi cs b hi) (fun cs b => hsel j oj cs b hoj) hQ hy h1
      have hfree' : ∀ k ok, ops[k]? = some ok → k ≠ i → (listed.setIfInBounds j true).getD k true = false →
          (∀ e ∈ ok.after, Region.binds md e = true → e.on ≠ i) → oi.apart ops ok = true := fun k ok hk hki hun hno => by
        refine hfree k ok hk hki ?_ hno
        by_cases hjk : j = k
        · subst hjk; exact hjun
        · rw [getD_set_ne true hjk] at hun; exact hun
      refine wpOpIn_mono (fun a' w' h3 => by
        rw [if_neg hjm]
        refine ⟨h3.2.1, ih (listed.setIfInBounds j true) a' w' (closedL_set hcl hj) hfree' (ready_mono hr (Ne.symm hji)) h3.1 h3.2.1 ?_⟩
        rw [Array.setIfInBounds_comm _ _ hji]
        exact h3.2.2) h2
def noDefer_ (o : Oper) : Bool := match o.op with | .defer _ => false | _ => true
theorem noDefer_spec {ops : Array Oper} (h : ops.all noDefer_ = true) : ∀ (j : Nat) (o : Oper) c, ops[j]? = some o → o.op ≠ .defer c := by
  intro j o c hj e
  have := (Array.all_eq_true_iff_forall_mem.1 h) o (Array.mem_of_getElem? hj)
  unfold noDefer_ at this
  rw [e] at this
  cases this
def closedLB (md : Region.Mode) (ops : Array Oper) (listed : Array Bool) : Bool := (List.range ops.size).all fun k => match ops[k]? with | none => true | some ok => (listed[k]? != some true) || ok.after.all (fun e => !Region.binds md e || listed[e.on]? == some true)
theorem closedLB_spec {listed : Array Bool} (h : closedLB md ops listed = true) : ClosedL md ops listed := by
  intro k ok hk hl e he hb
  have h1 := List.all_eq_true.1 h k (List.mem_range.2 (Array.getElem?_eq_some_iff.1 hk).1)
  rw [hk] at h1
  simp only [hl, bne_self_eq_false, Bool.false_or] at h1
  have h2 := (Array.all_eq_true_iff_forall_mem.1 h1) e he
  rw [hb] at h2
  simpa using h2
theorem wpAnyHI_take {i m : Nat} {oi : Oper} {v : Value} {fuel : Nat} {listed : Array Bool} {a : Act} {w : World} (hF : ∀ f, F.fn f) (hi : ops[i]? = some oi)
    (hc : (ops.all noDefer_ && Region.noSelect ops && Region.free md ops listed i && (Region.ready md ops listed).contains i && closedLB md ops listed && i != m && (decide (ops.size ≤ m) || needsL md ops ops.size m i)) = true)
    (hQ : ∀ c a w, Q (.panic c) (a.put oi.dst v) w → Q (.panic c) a w) (hy : YieldsIf P ops S oi v a) (hS : S w)
    (h : wpAnyHI F n P md ops Q S m fuel (listed.setIfInBounds i true) (a.put oi.dst v) w) : wpAnyHI F n P md ops Q S m (fuel + 1) listed a w := by
  simp only [Bool.and_eq_true, Bool.or_eq_true, decide_eq_true_eq, bne_iff_ne] at hc
  obtain ⟨⟨⟨⟨⟨⟨h1, h2⟩, h3⟩, h4⟩, h5⟩, h6⟩, h7⟩ := hc
  refine wpAnyHI_first hF (noDefer_spec h1) hi (Region.noSelect_spec h2) hQ h6 (fun l hcl hm => ?_) fuel listed a w (closedLB_spec h5) (Region.free_spec hi h3) (by simpa using h4) hy hS h
  rcases h7 with h7 | h7
  · obtain ⟨_, o, ho, _⟩ := mem_ready.1 hm
    have := (Array.getElem?_eq_some_iff.1 ho).1
    omega
  · exact needsL_spec hcl _ _ h7 (ready_getD hm).2
theorem wpAnyHI_one {i m : Nat} {o : Oper} {fuel : Nat} {listed : Array Bool} {a : Act} {w : World} (hF : ∀ f, F.fn f) (hi : ops[i]? = some o) (hr : ((Region.ready md ops listed == [i]) && i != m) = true)
    (h : ∀ K' : Act → World → Prop, (∀ a w, S w → wpAnyHI F n P md ops Q S m fuel (listed.setIfInBounds i true) a w → K' a w) → if Region.wanted o (yielded ops a.tmps) = true then Oper.wpIn F n P o a w K' Q else K' (a.put o.dst undef) w) : wpAnyHI F n P md ops Q S m (fuel + 1) listed a w := by
  simp only [Bool.and_eq_true, beq_iff_eq, bne_iff_ne] at hr
  obtain ⟨hr, him⟩ := hr
  refine ⟨fun h0 => (by rw [hr] at h0; cases h0), ?_⟩
  rw [hr]
  intro j hj
  obtain rfl : j = i := by simpa using hj
  unfold wpOpIn
  rw [hi]
  simp only [if_neg him]
  have h2 := h (fun a' w' => S w' ∧ wpAnyHI F n P md ops Q S m fuel (listed.setIfInBounds j true) a' w') (fun a w hs hw => ⟨hs, hw⟩)
  split
  · rename_i hw; rw [if_pos hw] at h2; exact h2
  · rename_i hw; rw [if_neg hw] at h2; exact ⟨fun f _ => hF f, h2⟩
theorem wpAnyHI_mid {m : Nat} {o : Oper} {fuel : Nat} {listed : Array Bool} {a : Act} {w : World} (hF : ∀ f, F.fn f) (hi : ops[m]? = some o) (hr : Region.ready md ops listed = [m])
    (h : ∀ K' : Act → World → Prop, (∀ a w, wpAnyIn F n P md ops Q fuel (listed.setIfInBounds m true) a w → K' a w) → if Region.wanted o (yielded ops a.tmps) = true then Oper.wpIn F n P o a w K' Q else K' (a.put o.dst undef) w) : wpAnyHI F n P md ops Q S m (fuel + 1) listed a w := by
  refine ⟨fun h0 => (by rw [hr] at h0; cases h0), ?_⟩
  rw [hr]
  intro j hj
  obtain rfl : j = m := by simpa using hj
  unfold wpOpIn
  rw [hi]
  simp only [if_true]
  have h2 := h (fun a' w' => wpAnyIn F n P md ops Q fuel (listed.setIfInBounds j true) a' w') (fun a w hw => hw)
  split
  · rename_i hw; rw [if_pos hw] at h2; exact h2
  · rename_i hw; rw [if_neg hw] at h2; exact ⟨fun f _ => hF f, h2⟩
theorem wpAnyHI_done {m : Nat} {listed : Array Bool} {a : Act} {w : World} (hr : Region.ready md ops listed = []) (h : Q .normal a w) :
    ∀ fuel, wpAnyHI F n P md ops Q S m fuel listed a w
  | 0 => ⟨hr, h⟩
  | _ + 1 => ⟨fun _ => h, by rw [hr]; simp⟩
theorem wpIn_region_held {id : Nat} {a : Act} {w : World} (S : World → Prop) (m : Nat) (hm : P.follows .mixedOrders = true)
    (h : wpAnyHI F n P .any ops Q S m ops.size (Array.replicate ops.size false) a w.drew) : (Code.region id ops true).wpIn F n P Q a w :=
  wpIn_region_any hm (wpAnyIn_of_held _ _ _ _ h)
theorem wpAnyIn_take1 {i : Nat} {o : Oper} {v : Value} {fuel : Nat} {listed : Array Bool} {a : Act} {w : World} (hF : ∀ f, F.fn f) (hi : ops[i]? = some o)
    (hc : (ops.all noDefer_ && (Region.ready md ops listed == [i])) = true) (hy : YieldsIf P ops (fun X => X = w) o v a)
    (h : wpAnyIn F n P md ops Q fuel (listed.setIfInBounds i true) (a.put o.dst v) w) : wpAnyIn F n P md ops Q (fuel + 1) listed a w := by
  simp only [Bool.and_eq_true, beq_iff_eq] at hc
  obtain ⟨h1, hr⟩ := hc
  refine wpAnyIn_all hr (by simp) ?_
  intro j hj
  obtain rfl : j = i := by simpa using hj
  exact yieldsIf_wpOpIn hF (fun c => noDefer_spec h1 _ _ c hi) hi hy rfl h
end
section
variable {F : Fence} {n : Nat} {P : Program} {ops : Array Oper} {Q : Exit → Act → World → Prop} {md : Region.Mode} {S : World → Prop}
end
theorem reps_ints (l : List Int) : Reps (fun (x : Int) cs => cs = [Value.int .i64 x]) 1 l (l.map (Value.int .i64)) := by
  refine ⟨by simp, fun j p h => ?_⟩
  obtain ⟨hj, rfl⟩ := List.getElem?_eq_some_iff.1 h
  apply List.ext_getElem
  · simp; omega
  · intro i h1 h2
    simp at h2
    subst h2
    simp
theorem R_of_own {w : World} {base e : Nat} {v : Value} {l : List Int} (h : w.ownsRow base e 1 v l.length (l.map (Value.int .i64))) : Kd.R (Kd.int .i64) e w base (fun _ => True) v l :=
  ⟨fun _ _ => trivial, _, h, reps_ints l⟩
theorem C_ints_ {W : World} {g e : Nat} (l : List Int) (h : W.heap[g]? = some (.cells (l.map (Value.int .i64)).toArray e (0, 0))) (hl : l.length ≤ 9223372036854775807) : Kd.C (Kd.int .i64) W (some ⟨g, 0, none⟩) l.length l := by
  refine ⟨rfl, hl, fun _ => ⟨_, rfl, fun j p hp => ⟨[.int .i64 p], rfl, rfl, fun i u hu => ?_⟩⟩⟩
  obtain ⟨hj, rfl⟩ := List.getElem?_eq_some_iff.1 hp
  obtain ⟨hi, rfl⟩ := List.getElem?_eq_some_iff.1 hu
  have h0 : i = 0 := by simp at hi; exact hi
  subst h0
  show W.cell? ((⟨g, 0, none⟩ : Addr).add (j * 1 + 0)) = _
  have ha : (⟨g, 0, none⟩ : Addr).add (j * 1 + 0) = ⟨g, j, none⟩ := by
    rw [Nat.mul_one, Nat.add_zero]
    by_cases h0 : j = 0
    · subst h0; rfl
    · simp [Addr.add, h0]
  rw [ha]
  refine (blk_cell h j).trans ?_
  simp [hj]
end Go.Proofs.Yteknbadjfojmbaa.QA
