-- What this claim does not use was left out by prune.py, a program of this session.
import Derived.Test.YteknbadjfojmbaaQA0
namespace Go.Proofs.Yteknbadjfojmbaa.QA
open Go.RowKit Go.Proofs.YteknbadjfojmbaaW.PrintWords Go.Proofs.YteknbadjfojmbaaW.PrintLast Go.Proofs.YteknbadjfojmbaaW.PrintMore
attribute [local go_sem] max2_int min2_int max_two min_two max_three min_three max_four min_four
set_option linter.unusedVariables false
set_option linter.unusedSimpArgs false
theorem enters_fn {P : Program} {f : FuncId} {fn : Func} (hf : P.funcs[f]? = some fn) (hname : (fn.name == "runtime.NumGoroutine") = false) (hb : fn.body.isSome = true) : ∀ (args : Array Value) (w : World), (callFunc f args).run P w = .ok (.enter f args) w := by
  intro args w
  have h1 : fn.name ≠ "runtime.NumGoroutine" := by simpa using hname
  obtain ⟨c, hc⟩ := Option.isSome_iff_exists.1 hb
  simp [callFunc, hf, h1, hc, mark]
section
variable {P : Program} {ops : Array Oper} {Q : Exit → Act → World → Prop} {md : Region.Mode} {S : World → Prop} {ds : List Nat}
end
section
variable {P : Program} {ops : Array Oper} {Q : Exit → Act → World → Prop}
theorem goesT_ {oi : Oper} {N : Option Tmp} {a : Act} {w : World} {K : Act → World → Prop} {f : FuncId} {fn : Func} {asx : Array Operand} {ts : Array TypeId} {t : Tmp} (hf : P.funcs[f]? = some fn) (hname : (fn.name == "runtime.NumGoroutine") = false) (hb : fn.body.isSome = true) (args cap : Array Value)
    (hw : Region.wanted oi (yielded ops a.tmps) = true) (hN : oi.dst = N) (hop : oi.op = .call { callee := .value (.tmp t), args := asx, argTypes := ts }) (hv : a.eval (.tmp t) = .func (.func f) #[] cap) (hargs : asx.map a.eval ++ cap = args)
    (h : Calls P f args w fun e w' => ∃ v, e = .returned v ∧ K (a.put N v) w') : if Region.wanted oi (yielded ops a.tmps) = true then Oper.wp P oi a w K Q else K (a.put N undef) w := by
  refine call_ f args hw hN ?_ h
  have he := enters_fn hf hname hb args w
  unfold execOp
  simp [hop, resolve, Deferred.ofValue, invoke, hv, hargs, he]
end
section
variable {F : Fence} {n : Nat} {P : Program} {ops : Array Oper} {Q : Exit → Act → World → Prop} {md : Region.Mode} {S : World → Prop}
theorem yieldsIf_wpOpIn {i : Nat} {o : Oper} {v : Value} {a : Act} (hF : ∀ f, F.fn f) (hnd : ∀ c, o.op ≠ .defer c) (hi : ops[i]? = some o) (hy : YieldsIf P ops S o v a)
    {K : Act → World → Prop} {w : World} (hS : S w) (h : K (a.put o.dst v) w) : wpOpIn F n P ops Q i K a w := by
  unfold Go.wpOpIn
  simp only [hi]
  rcases hy with ⟨hw, hv⟩ | ⟨hw, rfl⟩
  · simp only [hw, if_true, Oper.wpIn, Oper.semAt_plain F _ _ hnd, hv w hS, Oper.uponIn]; exact ⟨fun f _ => hF f, h⟩
  · simp only [hw, Bool.false_eq_true, if_false]; exact ⟨fun f _ => hF f, h⟩
theorem wpOpIn_putIf {j : Nat} {oi oj : Oper} {v : Value} (hF : ∀ f, F.fn f) (hnd : ∀ c, oj.op ≠ .defer c) (hj : ops[j]? = some oj) (hap : oi.apart ops oj = true)
    (hsi : ∀ cs b, oi.op ≠ .select cs b) (hsj : ∀ cs b, oj.op ≠ .select cs b)
    (hQ : ∀ c a w, Q (.panic c) (a.put oi.dst v) w → Q (.panic c) a w) {K : Act → World → Prop} {a : Act} {w : World}
    (hy : YieldsIf P ops S oi v a) (h : wpOpIn F n P ops Q j K (a.put oi.dst v) w) :
    wpOpIn F n P ops Q j (fun a' w' => YieldsIf P ops S oi v a' ∧ K (a'.put oi.dst v) w') a w := by
  obtain ⟨h1, h2, h3⟩ := Oper.apart_spec hap
  have keep : ∀ (a : Act), YieldsIf P ops S oi v a → ∀ u, YieldsIf P ops S oi v (a.put oj.dst u) := fun a hy u =>
    hy.of_same (execOp_put oi hsi a oj.dst u h3) (wanted_put oi a oj.dst u h3)
  have keepD : ∀ d, YieldsIf P ops S oi v { a with defers := d :: a.defers } := fun d => hy.of_same rfl rfl
  unfold wpOpIn at *
  simp only [hj] at *
  rw [wanted_put oj a oi.dst v h1, about_put oj w a oi.dst v h1] at h
  split
  · rename_i hw
    simp only [hw, if_true] at h
    unfold Oper.wpIn at *
    refine ⟨fun f _ => hF f, ?_⟩
    have h := h.2
    rw [Oper.semAt_plain F _ _ hnd, execOp_put oj hsj a oi.dst v h1] at h
    rw [Oper.semAt_plain F _ _ hnd]
    generalize (execOp a.eval oj).run P w = r at *
    cases r with
    | ok x w' =>
      cases x <;> simp only [Oper.uponIn] at h ⊢
      case value u => exact ⟨keep a hy u, by rw [← Act.put_comm a v u h2]; exact h⟩
      case skip => exact ⟨keep a hy _, by rw [← Act.put_comm a v undef h2]; exact h⟩
      case defer d =>
        refine ⟨keep _ (keepD d) _, ?_⟩
        rw [← Act.put_comm _ v undef h2, ← Act.put_defers]
        exact h
      case enter f args =>
        refine ⟨h.1, CallsIn.mono h.2 fun e w'' he => ?_⟩
        cases e with
        | returned u => exact ⟨keep a hy u, by rw [← Act.put_comm a v u h2]; exact he⟩
        | panicked c => exact hQ _ _ _ he
        | outgrown => exact he
      case row row args => exact ⟨h.1, RowsIn.mono h.2 fun u w'' he => ⟨keep a hy u, by rw [← Act.put_comm a v u h2]; exact he⟩⟩
      case round l f tmps assign body =>
        refine ⟨h.1, RoundIn.mono h.2 fun e w'' he => ?_⟩
        cases e with
        | returned u => exact ⟨keep a hy u, by rw [← Act.put_comm a v u h2]; exact he⟩
        | panicked c => exact hQ _ _ _ he
        | outgrown => exact he
    | halt x w' =>
      cases x <;> simp only [Oper.uponIn] at h ⊢
      case panic u => exact hQ _ _ _ h
  · rename_i hw
    simp only [hw] at h
    exact ⟨fun f _ => hF f, keep a hy _, by rw [← Act.put_comm a v undef h2]; exact h.2⟩
def wpAnyHI (F : Fence) (n : Nat) (P : Program) (md : Region.Mode) (ops : Array Oper) (Q : Exit → Act → World → Prop) (S : World → Prop) (m : Nat) : Nat → Array Bool → Act → World → Prop
  | 0, listed, a, w => Region.ready md ops listed = [] ∧ Q .normal a w
  | fuel + 1, listed, a, w =>
    (Region.ready md ops listed = [] → Q .normal a w) ∧
    ∀ i ∈ Region.ready md ops listed, wpOpIn F n P ops Q i (fun a' w' => if i = m then wpAnyIn F n P md ops Q fuel (listed.setIfInBounds i true) a' w' else S w' ∧ wpAnyHI F n P md ops Q S m fuel (listed.setIfInBounds i true) a' w') a w
theorem wpAnyIn_of_held {m : Nat} : ∀ (fuel : Nat) (listed : Array Bool) (a : Act) (w : World), wpAnyHI F n P md ops Q S m fuel listed a w → wpAnyIn F n P md ops Q fuel listed a w
  | 0, _, _, _, h => h
  | fuel + 1, _, _, _, h => ⟨h.1, fun i hi => wpOpIn_mono (fun a' w' h' => by
      by_cases e : i = m
      · rw [if_pos e] at h'; exact h'
      · rw [if_neg e] at h'; exact wpAnyIn_of_held fuel _ a' w' h'.2) (h.2 i hi)⟩
def ClosedL (md : Region.Mode) (ops : Array Oper) (listed : Array Bool) : Prop := ∀ (k : Nat) (ok : Oper), ops[k]? = some ok → listed[k]? = some true → ∀ e ∈ ok.after, Region.binds md e = true → listed[e.on]? = some true
def needsL (md : Region.Mode) (ops : Array Oper) : Nat → Nat → Nat → Bool
  | 0, _, _ => false
  | f + 1, m, i => match ops[m]? with | none => false | some o => o.after.any (fun e => Region.binds md e && (e.on == i || needsL md ops f e.on i))
theorem needsL_spec {listed : Array Bool} (hc : ClosedL md ops listed) {i : Nat} : ∀ (f m : Nat), needsL md ops f m i = true → (∀ o, ops[m]? = some o → ∀ e ∈ o.after, Region.binds md e = true → listed[e.on]? = some true) → listed[i]? = some true
  | 0, _, h, _ => by simp [needsL] at h
  | f + 1, m, h, ha => by
    unfold needsL at h
    split at h
    · cases h
    · rename_i o ho
      obtain ⟨k, hk, he⟩ := Array.any_eq_true.1 h
      simp only [Bool.and_eq_true, Bool.or_eq_true, beq_iff_eq] at he
      have h1 := ha o ho _ (Array.getElem_mem hk) he.1
      rcases he.2 with e1 | e1
      · rw [← e1]; exact h1
      · exact needsL_spec hc f _ e1 (fun o2 ho2 e2 he2 hb2 => hc _ o2 ho2 h1 e2 he2 hb2)
theorem ready_getD {listed : Array Bool} {i : Nat} (h : i ∈ Region.ready md ops listed) : listed.getD i true = false ∧ ∀ o, ops[i]? = some o → ∀ e ∈ o.after, Region.binds md e = true → listed[e.on]? = some true := by
  obtain ⟨h1, o, ho, hall⟩ := mem_ready.1 h
  refine ⟨h1, fun o' ho' e he hb => ?_⟩
  rw [ho] at ho'
  cases ho'
  have h2 := hall e he hb
  rcases Nat.lt_or_ge e.on listed.size with h' | h'
  · simp [h'] at h2 ⊢; exact h2
  · simp [Array.getElem?_eq_none h'] at h2
theorem closedL_set {listed : Array Bool} {j : Nat} (hc : ClosedL md ops listed) (hj : j ∈ Region.ready md ops listed) : ClosedL md ops (listed.setIfInBounds j true) := by
  obtain ⟨h1, h2⟩ := ready_getD hj
  intro k ok hk hl e he hb
  have h3 : listed[e.on]? = some true := by
    by_cases hjk : j = k
    · subst hjk; exact h2 ok hk e he hb
    · rw [Array.getElem?_setIfInBounds_ne hjk] at hl; exact hc k ok hk hl e he hb
  by_cases hje : j = e.on
  · rw [← hje] at h3
    rw [Array.getD_eq_getD_getElem?, h3] at h1
    cases h1
  · rw [Array.getElem?_setIfInBounds_ne hje]; exact h3
theorem wpAnyHI_first {i m : Nat} {oi : Oper} {v : Value} (hF : ∀ f, F.fn f) (hnd : ∀ (j : Nat) (o : Oper) c, ops[j]? = some o → o.op ≠ .defer c) (hi : ops[i]? = some oi) (hsel : ∀ (j : Nat) (o : Oper) cs b, ops[j]? = some o → o.op ≠ .select cs b)
    (hQ : ∀ c a w, Q (.panic c) (a.put oi.dst v) w → Q (.panic c) a w) (him : i ≠ m) (hm : ∀ listed, ClosedL md ops listed → m ∈ Region.ready md ops listed → listed[i]? = some true) :
    ∀ (fuel : Nat) (listed : Array Bool) (a : Act) (w : World), ClosedL md ops listed →
      (∀ j oj, ops[j]? = some oj → j ≠ i → listed.getD j true = false → (∀ e ∈ oj.after, Region.binds md e = true → e.on ≠ i) → oi.apart ops oj = true) →
      i ∈ Region.ready md ops listed → YieldsIf P ops S oi v a → S w →
      wpAnyHI F n P md ops Q S m fuel (listed.setIfInBounds i true) (a.put oi.dst v) w → wpAnyHI F n P md ops Q S m (fuel + 1) listed a w := by
  intro fuel
  induction fuel with
  | zero =>
    intro listed a w _ _ hr hy hS H
    refine ⟨fun h => (by rw [h] at hr; cases hr), fun j hj => ?_⟩
    by_cases hji : j = i
    · subst hji; exact yieldsIf_wpOpIn hF (fun c => hnd _ _ c hi) hi hy hS (by rw [if_neg him]; exact ⟨hS, H⟩)
    · have := ready_mono hj hji
      rw [H.1] at this
      cases this
  | succ fuel ih =>
    intro listed a w hcl hfree hr hy hS H
    refine ⟨fun h => (by rw [h] at hr; cases hr), fun j hj => ?_⟩
    by_cases hji : j = i
    · subst hji; exact yieldsIf_wpOpIn hF (fun c => hnd _ _ c hi) hi hy hS (by rw [if_neg him]; exact ⟨hS, H⟩)
    · have hjm : j ≠ m := by
        intro e
        subst e
        have h5 := hm listed hcl hj
        have h6 := (ready_getD hr).1
        rw [Array.getD_eq_getD_getElem?, h5] at h6
        cases h6
      have h1 := H.2 j (ready_mono hj hji)
      simp only [if_neg hjm] at h1
      obtain ⟨hjun, oj, hoj, hall⟩ := mem_ready.1 hj
      have hnot : ∀ e ∈ oj.after, Region.binds md e = true → e.on ≠ i := fun e he hb heq => by
        have h1 := hall e he hb
        have h0 := (mem_ready.1 hr).1
        rw [heq] at h1
        rcases Nat.lt_or_ge i listed.size with h' | h'
        · simp [h'] at h0 h1; rw [h0] at h1; cases h1
        · simp [Array.getElem?_eq_none h'] at h1
      have h2 := wpOpIn_putIf hF (fun c => hnd _ _ c hoj) hoj (hfree j oj hoj hji hjun hnot) (fun cs b => hsel i oi cs b hi) (fun cs b => hsel j oj cs b hoj) hQ hy h1
      have hfree' : ∀ k ok, ops[k]? = some ok → k ≠ i → (listed.setIfInBounds j true).getD k true = false →
          (∀ e ∈ ok.after, Region.binds md e = true → e.on ≠ i) → oi.apart ops ok = true := fun k ok hk hki hun hno => by
        refine hfree k ok hk hki ?_ hno
        by_cases hjk : j = k
        · subst hjk; exact hjun
        · rw [getD_set_ne true hjk] at hun; exact hun
      refine wpOpIn_mono (fun a' w' h3 => by
        rw [if_neg hjm]
        refine ⟨h3.2.1, ih (listed.setIfInBounds j true) a' w' (closedL_set hcl hj) hfree' (ready_mono hr (Ne.symm hji)) h3.1 h3.2.1 ?_⟩
        rw [Array.setIfInBounds_comm _ _ hji]
        exact h3.2.2) h2
def noDefer_ (o : Oper) : Bool := match o.op with | .defer _ => false | _ => true
theorem noDefer_spec {ops : Array Oper} (h : ops.all noDefer_ = true) : ∀ (j : Nat) (o : Oper) c, ops[j]? = some o → o.op ≠ .defer c := by
  intro j o c hj e
  have := (Array.all_eq_true_iff_forall_mem.1 h) o (Array.mem_of_getElem? hj)
  unfold noDefer_ at this
  rw [e] at this
  cases this
def closedLB (md : Region.Mode) (ops : Array Oper) (listed : Array Bool) : Bool := (List.range ops.size).all fun k => match ops[k]? with | none => true | some ok => (listed[k]? != some true) || ok.after.all (fun e => !Region.binds md e || listed[e.on]? == some true)
theorem closedLB_spec {listed : Array Bool} (h : closedLB md ops listed = true) : ClosedL md ops listed := by
  intro k ok hk hl e he hb
  have h1 := List.all_eq_true.1 h k (List.mem_range.2 (Array.getElem?_eq_some_iff.1 hk).1)
  rw [hk] at h1
  simp only [hl, bne_self_eq_false, Bool.false_or] at h1
  have h2 := (Array.all_eq_true_iff_forall_mem.1 h1) e he
  rw [hb] at h2
  simpa using h2
theorem wpAnyHI_take {i m : Nat} {oi : Oper} {v : Value} {fuel : Nat} {listed : Array Bool} {a : Act} {w : World} (hF : ∀ f, F.fn f) (hi : ops[i]? = some oi)
    (hc : (ops.all noDefer_ && Region.noSelect ops && Region.free md ops listed i && (Region.ready md ops listed).contains i && closedLB md ops listed && i != m && (decide (ops.size ≤ m) || needsL md ops ops.size m i)) = true)
    (hQ : ∀ c a w, Q (.panic c) (a.put oi.dst v) w → Q (.panic c) a w) (hy : YieldsIf P ops S oi v a) (hS : S w)
    (h : wpAnyHI F n P md ops Q S m fuel (listed.setIfInBounds i true) (a.put oi.dst v) w) : wpAnyHI F n P md ops Q S m (fuel + 1) listed a w := by
  simp only [Bool.and_eq_true, Bool.or_eq_true, decide_eq_true_eq, bne_iff_ne] at hc
  obtain ⟨⟨⟨⟨⟨⟨h1, h2⟩, h3⟩, h4⟩, h5⟩, h6⟩, h7⟩ := hc
  refine wpAnyHI_first hF (noDefer_spec h1) hi (Region.noSelect_spec h2) hQ h6 (fun l hcl hm => ?_) fuel listed a w (closedLB_spec h5) (Region.free_spec hi h3) (by simpa using h4) hy hS h
  rcases h7 with h7 | h7
  · obtain ⟨_, o, ho, _⟩ := mem_ready.1 hm
    have := (Array.getElem?_eq_some_iff.1 ho).1
    omega
  · exact needsL_spec hcl _ _ h7 (ready_getD hm).2
theorem wpAnyHI_one {i m : Nat} {o : Oper} {fuel : Nat} {listed : Array Bool} {a : Act} {w : World} (hF : ∀ f, F.fn f) (hi : ops[i]? = some o) (hr : ((Region.ready md ops listed == [i]) && i != m) = true)
    (h : ∀ K' : Act → World → Prop, (∀ a w, S w → wpAnyHI F n P md ops Q S m fuel (listed.setIfInBounds i true) a w → K' a w) → if Region.wanted o (yielded ops a.tmps) = true then Oper.wpIn F n P o a w K' Q else K' (a.put o.dst undef) w) : wpAnyHI F n P md ops Q S m (fuel + 1) listed a w := by
  simp only [Bool.and_eq_true, beq_iff_eq, bne_iff_ne] at hr
  obtain ⟨hr, him⟩ := hr
  refine ⟨fun h0 => (by rw [hr] at h0; cases h0), ?_⟩
  rw [hr]
  intro j hj
  obtain rfl : j = i := by simpa using hj
  unfold wpOpIn
  rw [hi]
  simp only [if_neg him]
  have h2 := h (fun a' w' => S w' ∧ wpAnyHI F n P md ops Q S m fuel (listed.setIfInBounds j true) a' w') (fun a w hs hw => ⟨hs, hw⟩)
  split
  · rename_i hw; rw [if_pos hw] at h2; exact h2
  · rename_i hw; rw [if_neg hw] at h2; exact ⟨fun f _ => hF f, h2⟩
theorem wpAnyHI_mid {m : Nat} {o : Oper} {fuel : Nat} {listed : Array Bool} {a : Act} {w : World} (hF : ∀ f, F.fn f) (hi : ops[m]? = some o) (hr : Region.ready md ops listed = [m])
    (h : ∀ K' : Act → World → Prop, (∀ a w, wpAnyIn F n P md ops Q fuel (listed.setIfInBounds m true) a w → K' a w) → if Region.wanted o (yielded ops a.tmps) = true then Oper.wpIn F n P o a w K' Q else K' (a.put o.dst undef) w) : wpAnyHI F n P md ops Q S m (fuel + 1) listed a w := by
  refine ⟨fun h0 => (by rw [hr] at h0; cases h0), ?_⟩
  rw [hr]
  intro j hj
  obtain rfl : j = m := by simpa using hj
  unfold wpOpIn
  rw [hi]
  simp only [if_true]
  have h2 := h (fun a' w' => wpAnyIn F n P md ops Q fuel (listed.setIfInBounds j true) a' w') (fun a w hw => hw)
  split
  · rename_i hw; rw [if_pos hw] at h2; exact h2
  · rename_i hw; rw [if_neg hw] at h2; exact ⟨fun f _ => hF f, h2⟩
theorem wpIn_region_held {id : Nat} {a : Act} {w : World} (S : World → Prop) (m : Nat) (hm : P.follows .mixedOrders = true)
    (h : wpAnyHI F n P .any ops Q S m ops.size (Array.replicate ops.size false) a w.drew) : (Code.region id ops true).wpIn F n P Q a w :=
  wpIn_region_any hm (wpAnyIn_of_held _ _ _ _ h)
theorem wpAnyIn_take1 {i : Nat} {o : Oper} {v : Value} {fuel : Nat} {listed : Array Bool} {a : Act} {w : World} (hF : ∀ f, F.fn f) (hi : ops[i]? = some o)
    (hc : (ops.all noDefer_ && (Region.ready md ops listed == [i])) = true) (hy : YieldsIf P ops (fun X => X = w) o v a)
    (h : wpAnyIn F n P md ops Q fuel (listed.setIfInBounds i true) (a.put o.dst v) w) : wpAnyIn F n P md ops Q (fuel + 1) listed a w := by
  simp only [Bool.and_eq_true, beq_iff_eq] at hc
  obtain ⟨h1, hr⟩ := hc
  refine wpAnyIn_all hr (by simp) ?_
  intro j hj
  obtain rfl : j = i := by simpa using hj
  exact yieldsIf_wpOpIn hF (fun c => noDefer_spec h1 _ _ c hi) hi hy rfl h
end
section
variable {F : Fence} {n : Nat} {P : Program} {ops : Array Oper} {Q : Exit → Act → World → Prop} {md : Region.Mode} {S : World → Prop}
theorem wpAnyHI_mid_not {m : Nat} {o : Oper} {fuel : Nat} {listed : Array Bool} {a : Act} {w : World} (hF : ∀ f, F.fn f) (hi : ops[m]? = some o) (hr : Region.ready md ops listed = [m]) (hw : Region.wanted o (yielded ops a.tmps) = false)
    (h : wpAnyIn F n P md ops Q fuel (listed.setIfInBounds m true) (a.put o.dst undef) w) : wpAnyHI F n P md ops Q S m (fuel + 1) listed a w :=
  wpAnyHI_mid hF hi hr (fun K' hK => by rw [if_neg (by rw [hw]; simp)]; exact hK _ _ h)
end
theorem reps_ints (l : List Int) : Reps (fun (x : Int) cs => cs = [Value.int .i64 x]) 1 l (l.map (Value.int .i64)) := by
  refine ⟨by simp, fun j p h => ?_⟩
  obtain ⟨hj, rfl⟩ := List.getElem?_eq_some_iff.1 h
  apply List.ext_getElem
  · simp; omega
  · intro i h1 h2
    simp at h2
    subst h2
    simp
theorem R_of_own {w : World} {base e : Nat} {v : Value} {l : List Int} (h : w.ownsRow base e 1 v l.length (l.map (Value.int .i64))) : Kd.R (Kd.int .i64) e w base (fun _ => True) v l :=
  ⟨fun _ _ => trivial, _, h, reps_ints l⟩
theorem C_ints_ {W : World} {g e : Nat} (l : List Int) (h : W.heap[g]? = some (.cells (l.map (Value.int .i64)).toArray e (0, 0))) (hl : l.length ≤ 9223372036854775807) : Kd.C (Kd.int .i64) W (some ⟨g, 0, none⟩) l.length l := by
  refine ⟨rfl, hl, fun _ => ⟨_, rfl, fun j p hp => ⟨[.int .i64 p], rfl, rfl, fun i u hu => ?_⟩⟩⟩
  obtain ⟨hj, rfl⟩ := List.getElem?_eq_some_iff.1 hp
  obtain ⟨hi, rfl⟩ := List.getElem?_eq_some_iff.1 hu
  have h0 : i = 0 := by simp at hi; exact hi
  subst h0
  show W.cell? ((⟨g, 0, none⟩ : Addr).add (j * 1 + 0)) = _
  have ha : (⟨g, 0, none⟩ : Addr).add (j * 1 + 0) = ⟨g, j, none⟩ := by
    rw [Nat.mul_one, Nat.add_zero]
    by_cases h0 : j = 0
    · subst h0; rfl
    · simp [Addr.add, h0]
  rw [ha]
  refine (blk_cell h j).trans ?_
  simp [hj]
def quietusref10_Few.f (l0_0 : List Int) (l0_1 : List (S117)) (l0_2 : List Int) (a0_3 : Int) (a1 : Int) : Option (Bool) := if (l0_0.length : Int) ≤ a1 then (if (l0_1.length : Int) ≤ a1 then (some (decide ((l0_2.length : Int) ≤ a1))) else (some false)) else (some false)
set_option maxHeartbeats 8000000 in
set_option maxRecDepth 100000 in
theorem quietusref10_Few.calls (A0_0 : Option Addr) (c0_0 : Nat) (l0_0 : List Int) (A0_1 : Option Addr) (c0_1 : Nat) (l0_1 : List (S117)) (A0_2 : Option Addr) (c0_2 : Nat) (l0_2 : List Int) (a0_3 : Int) (a1 : Int) (r : Bool) (w : World) (hr0_0 : Kd.C (Kd.int .i64) w A0_0 l0_0.length l0_0) (hc0_0 : l0_0.length ≤ c0_0) (hr0_1 : Kd.C k117 w A0_1 l0_1.length l0_1) (hc0_1 : l0_1.length ≤ c0_1) (hr0_2 : Kd.C (Kd.int .i64) w A0_2 l0_2.length l0_2) (hc0_2 : l0_2.length ≤ c0_2) (h : quietusref10_Few.f l0_0 l0_1 l0_2 a0_3 a1 = some r) :
    Calls Try.prog 14 #[.agg #[.slice A0_0 l0_0.length c0_0, .slice A0_1 l0_1.length c0_1, .slice A0_2 l0_2.length c0_2, .int .i64 a0_3], .int .i64 a1] w fun e w' => e = .returned (.bool r) ∧ Below w.heap.size w w' := by
  have hu25 := Try.underlying25
  have HR0_0 := Aside0.mk hr0_0
  have HC0_0 := Aside0.mk hc0_0
  clear hr0_0 hc0_0
  have HR0_1 := Aside0.mk hr0_1
  have HC0_1 := Aside0.mk hc0_1
  clear hr0_1 hc0_1
  have HR0_2 := Aside0.mk hr0_2
  have HC0_2 := Aside0.mk hc0_2
  clear hr0_2 hc0_2
  have HB := Aside0.mk (Below.refl w.heap.size w)
  have H : (if (l0_0.length : Int) ≤ a1 then (if (l0_1.length : Int) ≤ a1 then (some (decide ((l0_2.length : Int) ≤ a1))) else (some false)) else (some false)) = some r := h
  clear h
  by_cases c3 : (l0_0.length : Int) ≤ a1
  · rw [if_pos c3] at H
    have c3b0 : decide ((l0_0.length : Int) ≤ a1) = true := decide_eq_true c3
    clear c3
    by_cases c4 : (l0_1.length : Int) ≤ a1
    · rw [if_pos c4] at H
      have c4b0 : decide ((l0_1.length : Int) ≤ a1) = true := decide_eq_true c4
      clear c4
      obtain rfl := Option.some.inj H
      go_enter Try.func14, Try.ntmps14
      go_wp2_with (first | ((with_reducible refine gate_dst (N := 2) rfl ?_); (try (refine gate_guard (by rfl) ?_; dsimp only)); refine box_event ?hg (N := 2) ?hd (cs := #[.slice A0_0 l0_0.length c0_0, .slice A0_1 l0_1.length c0_1, .slice A0_2 l0_2.length c0_2, .int .i64 a0_3]) (t := 25) ?hr ?_; (case hd => rfl); (case hg => rfl); (case hr => first | (go_simp; done) | (go_simp; rfl)); intro gb101 hg w5 hbox hb; have n0_ := Aside0.mk (below_step (by repeat (first | (with_reducible first | exact HB.out | apply below_alloc | apply pw_below_drewN | apply below_drew1) | exact HB.out)) hb); have n1_ := Aside0.mk (hbox); have n2_ := Aside0.mk ((by rw [hg]; exact (below_size (by repeat (first | (with_reducible first | exact HB.out | apply below_alloc | apply pw_below_drewN | apply below_drew1) | exact HB.out))) : w.heap.size ≤ gb101)); have n3_ := Aside0.mk ((by rw [hg]; exact (below_size (by repeat (first | (with_reducible first | exact HB.out | apply below_alloc | apply pw_below_drewN | apply below_drew1) | exact HB.out))) : w.heap.size ≤ gb101)); clear HB; have HB := n0_; have BK101 := n1_; have GW101 := n2_; have GE101 := n3_; clear n0_ n1_ n2_ n3_; clear hb hbox hg; have hcz6_0 : w5.cell? ⟨gb101, 0, none⟩ = some (.slice A0_0 l0_0.length c0_0) := (blk_cell BK101.out 0).trans rfl; have hcz6_1 : w5.cell? ⟨gb101, 1, none⟩ = some (.slice A0_1 l0_1.length c0_1) := (blk_cell BK101.out 1).trans rfl; have hcz6_2 : w5.cell? ⟨gb101, 2, none⟩ = some (.slice A0_2 l0_2.length c0_2) := (blk_cell BK101.out 2).trans rfl; have hcz6_3 : w5.cell? ⟨gb101, 3, none⟩ = some (.int .i64 a0_3) := (blk_cell BK101.out 3).trans rfl; have hfz6_0 := blk_frozen BK101.out 0; have hfz6_1 := blk_frozen BK101.out 1; have hfz6_2 := blk_frozen BK101.out 2; have hfz6_3 := blk_frozen BK101.out 3))
      go_ret
      exact ⟨by first | rfl | (simp [errW_none, errW_some] <;> rfl) | (simp [*, errW_none, errW_some] <;> rfl), by repeat (first | (with_reducible first | exact HB.out | apply below_alloc | apply pw_below_drewN | apply below_drew1 | refine below_set ?_ GE101.out) | exact HB.out)⟩
    · rw [if_neg c4] at H
      have c4b0 : decide ((l0_1.length : Int) ≤ a1) = false := decide_eq_false c4
      clear c4
      obtain rfl := Option.some.inj H
      go_enter Try.func14, Try.ntmps14
      go_wp2_with (first | ((with_reducible refine gate_dst (N := 2) rfl ?_); (try (refine gate_guard (by rfl) ?_; dsimp only)); refine box_event ?hg (N := 2) ?hd (cs := #[.slice A0_0 l0_0.length c0_0, .slice A0_1 l0_1.length c0_1, .slice A0_2 l0_2.length c0_2, .int .i64 a0_3]) (t := 25) ?hr ?_; (case hd => rfl); (case hg => rfl); (case hr => first | (go_simp; done) | (go_simp; rfl)); intro gb101 hg w7 hbox hb; have n0_ := Aside0.mk (below_step (by repeat (first | (with_reducible first | exact HB.out | apply below_alloc | apply pw_below_drewN | apply below_drew1) | exact HB.out)) hb); have n1_ := Aside0.mk (hbox); have n2_ := Aside0.mk ((by rw [hg]; exact (below_size (by repeat (first | (with_reducible first | exact HB.out | apply below_alloc | apply pw_below_drewN | apply below_drew1) | exact HB.out))) : w.heap.size ≤ gb101)); have n3_ := Aside0.mk ((by rw [hg]; exact (below_size (by repeat (first | (with_reducible first | exact HB.out | apply below_alloc | apply pw_below_drewN | apply below_drew1) | exact HB.out))) : w.heap.size ≤ gb101)); clear HB; have HB := n0_; have BK101 := n1_; have GW101 := n2_; have GE101 := n3_; clear n0_ n1_ n2_ n3_; clear hb hbox hg; have hcz8_0 : w7.cell? ⟨gb101, 0, none⟩ = some (.slice A0_0 l0_0.length c0_0) := (blk_cell BK101.out 0).trans rfl; have hcz8_1 : w7.cell? ⟨gb101, 1, none⟩ = some (.slice A0_1 l0_1.length c0_1) := (blk_cell BK101.out 1).trans rfl; have hcz8_2 : w7.cell? ⟨gb101, 2, none⟩ = some (.slice A0_2 l0_2.length c0_2) := (blk_cell BK101.out 2).trans rfl; have hcz8_3 : w7.cell? ⟨gb101, 3, none⟩ = some (.int .i64 a0_3) := (blk_cell BK101.out 3).trans rfl; have hfz8_0 := blk_frozen BK101.out 0; have hfz8_1 := blk_frozen BK101.out 1; have hfz8_2 := blk_frozen BK101.out 2; have hfz8_3 := blk_frozen BK101.out 3))
      go_ret
      exact ⟨by first | rfl | (simp [errW_none, errW_some] <;> rfl) | (simp [*, errW_none, errW_some] <;> rfl), by repeat (first | (with_reducible first | exact HB.out | apply below_alloc | apply pw_below_drewN | apply below_drew1 | refine below_set ?_ GE101.out) | exact HB.out)⟩
  · rw [if_neg c3] at H
    have c3b0 : decide ((l0_0.length : Int) ≤ a1) = false := decide_eq_false c3
    clear c3
    obtain rfl := Option.some.inj H
    go_enter Try.func14, Try.ntmps14
    go_wp2_with (first | ((with_reducible refine gate_dst (N := 2) rfl ?_); (try (refine gate_guard (by rfl) ?_; dsimp only)); refine box_event ?hg (N := 2) ?hd (cs := #[.slice A0_0 l0_0.length c0_0, .slice A0_1 l0_1.length c0_1, .slice A0_2 l0_2.length c0_2, .int .i64 a0_3]) (t := 25) ?hr ?_; (case hd => rfl); (case hg => rfl); (case hr => first | (go_simp; done) | (go_simp; rfl)); intro gb101 hg w9 hbox hb; have n0_ := Aside0.mk (below_step (by repeat (first | (with_reducible first | exact HB.out | apply below_alloc | apply pw_below_drewN | apply below_drew1) | exact HB.out)) hb); have n1_ := Aside0.mk (hbox); have n2_ := Aside0.mk ((by rw [hg]; exact (below_size (by repeat (first | (with_reducible first | exact HB.out | apply below_alloc | apply pw_below_drewN | apply below_drew1) | exact HB.out))) : w.heap.size ≤ gb101)); have n3_ := Aside0.mk ((by rw [hg]; exact (below_size (by repeat (first | (with_reducible first | exact HB.out | apply below_alloc | apply pw_below_drewN | apply below_drew1) | exact HB.out))) : w.heap.size ≤ gb101)); clear HB; have HB := n0_; have BK101 := n1_; have GW101 := n2_; have GE101 := n3_; clear n0_ n1_ n2_ n3_; clear hb hbox hg; have hcz10_0 : w9.cell? ⟨gb101, 0, none⟩ = some (.slice A0_0 l0_0.length c0_0) := (blk_cell BK101.out 0).trans rfl; have hcz10_1 : w9.cell? ⟨gb101, 1, none⟩ = some (.slice A0_1 l0_1.length c0_1) := (blk_cell BK101.out 1).trans rfl; have hcz10_2 : w9.cell? ⟨gb101, 2, none⟩ = some (.slice A0_2 l0_2.length c0_2) := (blk_cell BK101.out 2).trans rfl; have hcz10_3 : w9.cell? ⟨gb101, 3, none⟩ = some (.int .i64 a0_3) := (blk_cell BK101.out 3).trans rfl; have hfz10_0 := blk_frozen BK101.out 0; have hfz10_1 := blk_frozen BK101.out 1; have hfz10_2 := blk_frozen BK101.out 2; have hfz10_3 := blk_frozen BK101.out 3))
    go_ret
    exact ⟨by first | rfl | (simp [errW_none, errW_some] <;> rfl) | (simp [*, errW_none, errW_some] <;> rfl), by repeat (first | (with_reducible first | exact HB.out | apply below_alloc | apply pw_below_drewN | apply below_drew1 | refine below_set ?_ GE101.out) | exact HB.out)⟩
theorem slices_IndexFunc_int_int.calls_ (A : Option Addr) (c : Nat) (l : List Int) (g : FuncId) (cap : Array Value) (p : Int → Bool) (w : World) (hr : Kd.C (Kd.int .i64) w A l.length l) (hent : ∀ args W, (callFunc g args).run Try.prog W = .ok (.enter g args) W)
    (hcl : ∀ i : Nat, i < l.length → ∀ W, Below w.heap.size w W → Calls Try.prog g (#[.int .i64 (rd l (i : Int))] ++ cap) W fun e W' => e = .returned (.bool (p (rd l (i : Int)))) ∧ Below W.heap.size W W') :
    Calls Try.prog 84 #[.slice A l.length c, .func (.func g) #[] cap] w fun e w' => ∃ n : Int, e = .returned (.int .i64 n) ∧ decide (0 ≤ n) = l.any p ∧ Below w.heap.size w w' := by
  have HR := Aside0.mk hr
  have HCL := Aside0.mk hcl
  have hmx := Kd.C_max hr
  clear hr hcl
  go_enter Try.func84, Try.ntmps84
  go_wp2
  go_loopw [8] (fun v8 wr => ∃ i : Nat, i ≤ l.length ∧ v8 = .int .i64 (i : Int) ∧ Aside0 (∀ j : Nat, j < i → p (rd l (j : Int)) = false) ∧ Aside0 (Below w.heap.size w wr)) (fun v8 _ => l.length - (intOf v8).toNat)
  case atStart => exact ⟨0, Nat.zero_le _, rfl, ⟨fun j hj => absurd hj (by omega)⟩, ⟨Below.refl _ _⟩⟩
  case round =>
    obtain ⟨i, hi, rfl, HP, HB⟩ := hrel
    by_cases hlt : i < l.length
    · have hd : decide ((i : Int) < (l.length : Int)) = true := decide_eq_true (by omega)
      have hp0 : (0 : Int) ≤ (i : Int) := by omega
      have hp1 : (i : Int) < (l.length : Int) := by omega
      obtain ⟨ad, e0, hx⟩ := Kd.at_int HR.out (i : Int) hp0 hp1
      cases e0
      rw [Int.toNat_natCast] at hx
      replace hx := (HB.out.cell (World.block_lt_of_cell? w _ hx)).trans hx
      have hC := HCL.out i hlt wr HB.out
      by_cases hpi : p (rd l (i : Int)) = true
      · rw [hpi] at hC
        have HC := Aside0.mk hC
        have HPI := Aside0.mk hpi
        clear hC hpi
        go_wp2_with fail
        refine HC.out.mono ?_
        rintro e w' ⟨rfl, hb⟩
        have HB2 := Aside0.mk (below_step HB.out hb)
        clear hb
        go_wp2
        go_ret
        refine ⟨_, rfl, ?_, HB2.out⟩
        rw [decide_eq_true (by omega)]
        refine (List.any_eq_true.2 ⟨l[i], List.getElem_mem hlt, ?_⟩).symm
        have := HPI.out
        unfold rd at this
        rw [Int.toNat_natCast, List.getD_eq_getElem?_getD, List.getElem?_eq_getElem hlt] at this
        exact this
      · have hpf : p (rd l (i : Int)) = false := by simpa using hpi
        rw [hpf] at hC
        have HC := Aside0.mk hC
        have HPF := Aside0.mk hpf
        clear hC hpi hpf
        go_wp2_with fail
        refine HC.out.mono ?_
        rintro e w' ⟨rfl, hb⟩
        have HB2 := Aside0.mk (below_step HB.out hb)
        clear hb
        go_wp2
        go_roundw
        case rel =>
          refine ⟨i + 1, by omega, by go_num, ⟨fun j hj => ?_⟩, HB2⟩
          rcases Nat.lt_or_ge j i with h1 | h1
          · exact HP.out j h1
          · obtain rfl : j = i := by omega
            exact HPF.out
        case measure => simp [intOf]; omega
    · have hd : decide ((i : Int) < (l.length : Int)) = false := decide_eq_false (by omega)
      obtain rfl : i = l.length := by omega
      go_wp2
      go_ret
      refine ⟨_, rfl, ?_, HB.out⟩
      rw [decide_eq_false (by omega)]
      symm
      rw [List.any_eq_false]
      intro x hx
      obtain ⟨j, hj, rfl⟩ := List.mem_iff_getElem.1 hx
      have := HP.out j hj
      unfold rd at this
      rw [Int.toNat_natCast, List.getD_eq_getElem?_getD, List.getElem?_eq_getElem hj] at this
      simpa using this
theorem slices_ContainsFunc_int_int.calls_ (A : Option Addr) (c : Nat) (l : List Int) (g : FuncId) (cap : Array Value) (p : Int → Bool) (w : World) (hr : Kd.C (Kd.int .i64) w A l.length l) (hent : ∀ args W, (callFunc g args).run Try.prog W = .ok (.enter g args) W)
    (hcl : ∀ i : Nat, i < l.length → ∀ W, Below w.heap.size w W → Calls Try.prog g (#[.int .i64 (rd l (i : Int))] ++ cap) W fun e W' => e = .returned (.bool (p (rd l (i : Int)))) ∧ Below W.heap.size W W') :
    Calls Try.prog 64 #[.slice A l.length c, .func (.func g) #[] cap] w fun e w' => e = .returned (.bool (l.any p)) ∧ Below w.heap.size w w' := by
  have HR := Aside0.mk hr
  have HCL := Aside0.mk hcl
  clear hr hcl
  go_enter Try.func64, Try.ntmps64
  go_wp2_with (go_at_call 84; refine (slices_IndexFunc_int_int.calls_ A c l g cap p _ HR.out hent HCL.out).mono ?_; rintro e w' ⟨n, rfl, hd, hb⟩; have HD := Aside0.mk hd; have HB := Aside0.mk hb; clear hd hb)
  go_ret
  exact ⟨by rw [← HD.out]; rfl, HB.out⟩
theorem slices_IndexFunc_Rack.calls_ (A : Option Addr) (c : Nat) (l : List S117) (g : FuncId) (cap : Array Value) (p : S117 → Bool) (w : World) (hr : Kd.C k117 w A l.length l) (hent : ∀ args W, (callFunc g args).run Try.prog W = .ok (.enter g args) W)
    (hcl : ∀ i : Nat, i < l.length → ∀ W, Below w.heap.size w W → Calls Try.prog g (#[.agg #[.int .i64 (rd_T117 l (i : Int)).f0, .bool (rd_T117 l (i : Int)).f1]] ++ cap) W fun e W' => e = .returned (.bool (p (rd_T117 l (i : Int)))) ∧ Below W.heap.size W W') :
    Calls Try.prog 85 #[.slice A l.length c, .func (.func g) #[] cap] w fun e w' => ∃ n : Int, e = .returned (.int .i64 n) ∧ decide (0 ≤ n) = l.any p ∧ Below w.heap.size w w' := by
  have HR := Aside0.mk hr
  have HCL := Aside0.mk hcl
  have hmx := Kd.C_max hr
  clear hr hcl
  go_enter Try.func85, Try.ntmps85
  go_wp2
  go_loopw [8] (fun v8 wr => ∃ i : Nat, i ≤ l.length ∧ v8 = .int .i64 (i : Int) ∧ Aside0 (∀ j : Nat, j < i → p (rd_T117 l (j : Int)) = false) ∧ Aside0 (Below w.heap.size w wr)) (fun v8 _ => l.length - (intOf v8).toNat)
  case atStart => exact ⟨0, Nat.zero_le _, rfl, ⟨fun j hj => absurd hj (by omega)⟩, ⟨Below.refl _ _⟩⟩
  case round =>
    obtain ⟨i, hi, rfl, HP, HB⟩ := hrel
    by_cases hlt : i < l.length
    · have hd : decide ((i : Int) < (l.length : Int)) = true := decide_eq_true (by omega)
      have hp0 : (0 : Int) ≤ (i : Int) := by omega
      have hp1 : (i : Int) < (l.length : Int) := by omega
      obtain ⟨ad, e0, hx, hx2⟩ := at_T117 HR.out (i : Int) hp0 hp1
      cases e0
      rw [Int.toNat_natCast] at hx hx2
      replace hx := (HB.out.cell (World.block_lt_of_cell? w _ hx)).trans hx
      replace hx2 := (HB.out.cell (World.block_lt_of_cell? w _ hx2)).trans hx2
      have hC := HCL.out i hlt wr HB.out
      by_cases hpi : p (rd_T117 l (i : Int)) = true
      · rw [hpi] at hC
        have HC := Aside0.mk hC
        have HPI := Aside0.mk hpi
        clear hC hpi
        go_wp2_with fail
        refine HC.out.mono ?_
        rintro e w' ⟨rfl, hb⟩
        have HB2 := Aside0.mk (below_step HB.out hb)
        clear hb
        go_wp2
        go_ret
        refine ⟨_, rfl, ?_, HB2.out⟩
        rw [decide_eq_true (by omega)]
        refine (List.any_eq_true.2 ⟨l[i], List.getElem_mem hlt, ?_⟩).symm
        have := HPI.out
        unfold rd_T117 at this
        rw [Int.toNat_natCast, List.getD_eq_getElem?_getD, List.getElem?_eq_getElem hlt] at this
        exact this
      · have hpf : p (rd_T117 l (i : Int)) = false := by simpa using hpi
        rw [hpf] at hC
        have HC := Aside0.mk hC
        have HPF := Aside0.mk hpf
        clear hC hpi hpf
        go_wp2_with fail
        refine HC.out.mono ?_
        rintro e w' ⟨rfl, hb⟩
        have HB2 := Aside0.mk (below_step HB.out hb)
        clear hb
        go_wp2
        go_roundw
        case rel =>
          refine ⟨i + 1, by omega, by go_num, ⟨fun j hj => ?_⟩, HB2⟩
          rcases Nat.lt_or_ge j i with h1 | h1
          · exact HP.out j h1
          · obtain rfl : j = i := by omega
            exact HPF.out
        case measure => simp [intOf]; omega
    · have hd : decide ((i : Int) < (l.length : Int)) = false := decide_eq_false (by omega)
      obtain rfl : i = l.length := by omega
      go_wp2
      go_ret
      refine ⟨_, rfl, ?_, HB.out⟩
      rw [decide_eq_false (by omega)]
      symm
      rw [List.any_eq_false]
      intro x hx
      obtain ⟨j, hj, rfl⟩ := List.mem_iff_getElem.1 hx
      have := HP.out j hj
      unfold rd_T117 at this
      rw [Int.toNat_natCast, List.getD_eq_getElem?_getD, List.getElem?_eq_getElem hj] at this
      simpa using this
theorem slices_ContainsFunc_Rack.calls_ (A : Option Addr) (c : Nat) (l : List S117) (g : FuncId) (cap : Array Value) (p : S117 → Bool) (w : World) (hr : Kd.C k117 w A l.length l) (hent : ∀ args W, (callFunc g args).run Try.prog W = .ok (.enter g args) W)
    (hcl : ∀ i : Nat, i < l.length → ∀ W, Below w.heap.size w W → Calls Try.prog g (#[.agg #[.int .i64 (rd_T117 l (i : Int)).f0, .bool (rd_T117 l (i : Int)).f1]] ++ cap) W fun e W' => e = .returned (.bool (p (rd_T117 l (i : Int)))) ∧ Below W.heap.size W W') :
    Calls Try.prog 65 #[.slice A l.length c, .func (.func g) #[] cap] w fun e w' => e = .returned (.bool (l.any p)) ∧ Below w.heap.size w w' := by
  have HR := Aside0.mk hr
  have HCL := Aside0.mk hcl
  clear hr hcl
  go_enter Try.func65, Try.ntmps65
  go_wp2_with (go_at_call 85; refine (slices_IndexFunc_Rack.calls_ A c l g cap p _ HR.out hent HCL.out).mono ?_; rintro e w' ⟨n, rfl, hd, hb⟩; have HD := Aside0.mk hd; have HB := Aside0.mk hb; clear hd hb)
  go_ret
  exact ⟨by rw [← HD.out]; rfl, HB.out⟩
end Go.Proofs.Yteknbadjfojmbaa.QA
