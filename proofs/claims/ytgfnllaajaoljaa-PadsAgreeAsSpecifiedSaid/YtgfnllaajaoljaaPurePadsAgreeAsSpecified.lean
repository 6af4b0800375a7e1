/- Proved here: the pure statement of the law PadsAgreeAsSpecified (QA.PadsAgreeAsSpecified.Pure): what the Go function computes, told as a Lean function, is true for every input in the stated bounds. -/
import Derived.Test.YtgfnllaajaoljaaSPadsAgreeAsSpecified
import Derived.Test.YtgfnllaajaoljaaPureAgree
namespace Go.Proofs.Ytgfnllaajaoljaa.QA
open Go.RowKit Go.Proofs.YtgfnllaajaoljaaW.PrintWords Go.Proofs.YtgfnllaajaoljaaW.PrintLast Go.Proofs.YtgfnllaajaoljaaW.PrintMore
attribute [local go_sem] max2_int min2_int max_two min_two max_three min_three max_four min_four
set_option linter.unusedVariables false
set_option linter.unusedSimpArgs false
/-! The specification, which tries all values of a byte. -/
def fitsN (v : Int) (zs : List Nat) (x : Nat) : Prop := (v < 0 ∨ v = (x : Int)) ∧ ∀ z ∈ zs, z = x
instance (v : Int) (zs : List Nat) (x : Nat) : Decidable (fitsN v zs x) := by unfold fitsN; infer_instance
def cntN (P : Nat → Bool) : Nat → Nat → Nat
  | 0, _ => 0
  | d + 1, x => (if P x then 1 else 0) + cntN P d (x + 1)
theorem cntN_le (P : Nat → Bool) : ∀ d x, cntN P d x ≤ d
  | 0, _ => by simp [cntN]
  | d + 1, x => by have := cntN_le P d (x + 1); unfold cntN; split <;> omega
theorem cntN_none (P : Nat → Bool) : ∀ d x, (∀ y, x ≤ y → y < x + d → P y = false) → cntN P d x = 0
  | 0, _, _ => rfl
  | d + 1, x, h => by
    unfold cntN
    rw [h x (by omega) (by omega), cntN_none P d (x + 1) (fun y h1 h2 => h y (by omega) (by omega))]
    rfl
theorem cntN_all (P : Nat → Bool) : ∀ d x, (∀ y, P y = true) → cntN P d x = d
  | 0, _, _ => rfl
  | d + 1, x, h => by
    unfold cntN
    rw [h x, cntN_all P d (x + 1) h, if_pos rfl]
    omega
theorem cntN_one (P : Nat → Bool) (x0 : Nat) (h0 : P x0 = true) (h1 : ∀ y, y ≠ x0 → P y = false) : ∀ d x, x ≤ x0 → x0 < x + d → cntN P d x = 1
  | 0, x, a, b => by omega
  | d + 1, x, a, b => by
    unfold cntN
    by_cases h : x = x0
    · subst h
      rw [h0, cntN_none P d (x + 1) (fun y hy _ => h1 y (by omega)), if_pos rfl]
    · rw [h1 x h, cntN_one P x0 h0 h1 d (x + 1) (by omega) (by omega)]
      rfl
theorem step_fits : ∀ (zs : List Nat) (v : Int), v ≤ 255 → (∀ z ∈ zs, z < 256) →
    (stepN v zs = none ∧ ∀ x, ¬ fitsN v zs x) ∨ (∃ w, stepN v zs = some w ∧ w < 0 ∧ ∀ x, fitsN v zs x) ∨ (∃ w : Nat, stepN v zs = some (w : Int) ∧ w < 256 ∧ fitsN v zs w ∧ ∀ x, x ≠ w → ¬ fitsN v zs x)
  | [], v, hv, _ => by
    by_cases h : v < 0
    · exact Or.inr (Or.inl ⟨v, rfl, h, fun x => ⟨Or.inl h, by simp⟩⟩)
    · refine Or.inr (Or.inr ⟨v.toNat, ?_, by omega, ⟨Or.inr (by omega), by simp⟩, fun x hx hf => ?_⟩)
      · unfold stepN
        congr 1
        omega
      · rcases hf.1 with h1 | h1
        · omega
        · omega
  | z :: t, v, hv, hz => by
    have hz0 := hz z (by simp)
    have ih := step_fits t (z : Int) (by omega) (fun y hy => hz y (by simp [hy]))
    have hiff : (v < 0 ∨ v = (z : Int)) → ∀ x, fitsN v (z :: t) x ↔ fitsN (z : Int) t x := by
      intro hvz x
      unfold fitsN
      constructor
      · rintro ⟨_, h2⟩
        exact ⟨Or.inr (by rw [h2 z (by simp)]), fun y hy => h2 y (by simp [hy])⟩
      · rintro ⟨h1, h2⟩
        have e : z = x := by omega
        refine ⟨by omega, fun y hy => ?_⟩
        rcases List.mem_cons.1 hy with rfl | hy
        · exact e
        · exact h2 y hy
    have hgo : (v < 0 ∨ v = (z : Int)) → stepN v (z :: t) = stepN (z : Int) t := by
      intro h
      unfold stepN
      by_cases h1 : v ≥ 0
      · rw [if_pos h1, if_pos (by omega)]
        cases t <;> rfl
      · rw [if_neg h1]
        cases t <;> rfl
    by_cases hvz : v < 0 ∨ v = (z : Int)
    · rw [hgo hvz]
      rcases ih with ⟨h1, h2⟩ | ⟨w, h1, h2, h3⟩ | ⟨w, h1, h2, h3, h4⟩
      · exact Or.inl ⟨h1, fun x hx => h2 x ((hiff hvz x).1 hx)⟩
      · exact Or.inr (Or.inl ⟨w, h1, h2, fun x => (hiff hvz x).2 (h3 x)⟩)
      · exact Or.inr (Or.inr ⟨w, h1, h2, (hiff hvz w).2 h3, fun x hx hf => h4 x hx ((hiff hvz x).1 hf)⟩)
    · refine Or.inl ⟨?_, fun x hf => ?_⟩
      · unfold stepN
        rw [if_pos (by omega), if_neg (by omega)]
      · have := hf.1
        have := hf.2 z (by simp)
        omega
theorem xor_eq_iff (a b x : Nat) : a = b ^^^ x ↔ a ^^^ b = x := by
  constructor
  · intro h
    rw [h, Nat.xor_comm b x, Nat.xor_assoc, Nat.xor_self, Nat.xor_zero]
  · intro h
    rw [← h, Nat.xor_comm a b, ← Nat.xor_assoc, Nat.xor_self, Nat.zero_xor]
theorem ba_l1 (c p : List ByteArray) (v : Int) (i m x : Nat) (hcp : c.length = p.length) (hc : c.length ≤ 8796093022208) (n : Nat) (hi : i < n) (h : lenOK c p n 0) (hx : x < 256) (hm : m ≤ 256) (R : Nat → Int)
    (hR : ∀ m' : Nat, m' ≤ m + 1 → Ev (fun k => quietusref25_byteAt.l0 k c p v (i : Int) (m' : Int) ((x + 1 : Nat) : Int)) (R m')) : ∀ (d j : Nat), j + d = c.length → ∀ b : Bool,
    Ev (fun k => quietusref25_byteAt.l1 k c p v (i : Int) (m : Int) (x : Int) b (j : Int)) (R (if b = true ∧ ∀ z ∈ (zf c p i).drop j, z = x then m + 1 else m)) := by
  have hzl : (zf c p i).length = c.length := by rw [zf_len]; omega
  intro d
  induction d with
  | zero =>
    intro j hj b
    refine Ev.step (fun k => by rw [quietusref25_byteAt.l1]) ?_
    rw [List.drop_of_length_le (by omega)]
    refine Ev.neg_ (by omega) ?_
    rw [w64 (n := (m : Int) + 1) (by omega) (by omega), w64 (n := (x : Int) + 1) (by omega) (by omega)]
    cases b
    · refine Ev.neg_ (by simp) (Ev.eq_ (hR m (by omega)) ?_)
      rw [if_neg (by simp)]
    · refine Ev.pos_ rfl (Ev.eq_ (hR (m + 1) (by omega)) ?_)
      rw [if_pos (by simp)]
  | succ d ih =>
    intro j hj b
    have hs := h j (by omega) (by omega) (by omega)
    refine Ev.step (fun k => by rw [quietusref25_byteAt.l1]) ?_
    rw [rdOf_nat c j (by omega), rdOf_nat p j (by omega)]
    refine Ev.pos_ (by omega) ?_
    have hz : (zf c p i)[j]'(by omega) = byt (c[j]'(by omega)) i ^^^ byt (p[j]'(by omega)) i := zf_get c p i j _ _ _
    rw [List.drop_eq_getElem_cons (by omega : j < (zf c p i).length), hz, w64 (n := (j : Int) + 1) (by omega) (by omega)]
    have c256 := byt_lt (c[j]'(by omega)) i
    have p256 := byt_lt (p[j]'(by omega)) i
    cases b
    · refine Ev.neg_ (by simp) (Ev.eq_ (ih (j + 1) (by omega) false) ?_)
      rw [if_neg (by simp), if_neg (by simp)]
    · refine Ev.pos_ rfl (Ev.pos_ (by omega) (Ev.pos_ (by omega) (Ev.pos_ (by omega) (Ev.pos_ (by omega) (Ev.pos_ (by omega) ?_)))))
      rw [byt_bt, byt_bt, w64 (n := (byt (c[j]'(by omega)) i : Int)) (by omega) (by omega), w64 (n := (byt (p[j]'(by omega)) i : Int)) (by omega) (by omega), xor64 _ _ p256 hx]
      refine Ev.eq_ (ih (j + 1) (by omega) _) ?_
      congr 1
      have e : ((((byt (c[j]'(by omega)) i : Nat) : Int) == ((byt (p[j]'(by omega)) i ^^^ x : Nat) : Int)) = true) ↔ byt (c[j]'(by omega)) i ^^^ byt (p[j]'(by omega)) i = x := by
        rw [← xor_eq_iff, beq_iff_eq]
        exact Int.ofNat_inj
      by_cases hh : byt (c[j]'(by omega)) i ^^^ byt (p[j]'(by omega)) i = x ∧ ∀ z ∈ (zf c p i).drop (j + 1), z = x
      · rw [if_pos ⟨e.2 hh.1, hh.2⟩, if_pos ⟨rfl, fun z hz => by
          rcases List.mem_cons.1 hz with rfl | hz
          · exact hh.1
          · exact hh.2 z hz⟩]
      · rw [if_neg (fun h => hh ⟨e.1 h.1, h.2⟩), if_neg (fun h => hh ⟨h.2 _ (by simp), fun z hz => h.2 z (by simp [hz])⟩)]
theorem ba_l0 (c p : List ByteArray) (v : Int) (i : Nat) (hcp : c.length = p.length) (hc : c.length ≤ 8796093022208) (n : Nat) (hi : i < n) (h : lenOK c p n 0) : ∀ (d x m : Nat), x + d = 256 → m ≤ x →
    Ev (fun k => quietusref25_byteAt.l0 k c p v (i : Int) (m : Int) (x : Int)) ((m + cntN (fun y => decide (fitsN v (zf c p i) y)) d x : Nat) : Int) := by
  intro d
  induction d with
  | zero =>
    intro x m hx hm
    refine Ev.step (fun k => by rw [quietusref25_byteAt.l0]) ?_
    exact Ev.neg_ (by omega) (Ev.now _)
  | succ d ih =>
    intro x m hx hm
    refine Ev.step (fun k => by rw [quietusref25_byteAt.l0]) ?_
    refine Ev.pos_ (by omega) ?_
    have hj : ∀ b : Bool, (b = true ↔ (v < 0 ∨ v = (x : Int))) → Ev (fun k => quietusref25_byteAt.j1 k c p v (i : Int) (m : Int) (x : Int) b) ((m + cntN (fun y => decide (fitsN v (zf c p i) y)) (d + 1) x : Nat) : Int) := by
      intro b hb
      refine Ev.step (fun k => by rw [quietusref25_byteAt.j1]) ?_
      refine Ev.eq_ (ba_l1 c p v i m x hcp hc n hi h (by omega) (by omega) (fun m' => ((m' + cntN (fun y => decide (fitsN v (zf c p i) y)) d (x + 1) : Nat) : Int)) (fun m' hm' => ih (x + 1) m' (by omega) (by omega)) c.length 0 (by omega) b) ?_
      show ((_ + cntN _ d (x + 1) : Nat) : Int) = ((m + ((if decide (fitsN v (zf c p i) x) then 1 else 0) + cntN _ d (x + 1)) : Nat) : Int)
      rw [List.drop_zero]
      by_cases hf : fitsN v (zf c p i) x
      · rw [if_pos ⟨hb.2 hf.1, hf.2⟩, decide_eq_true hf, if_pos rfl]
        omega
      · rw [if_neg (fun hh => hf ⟨hb.1 hh.1, hh.2⟩), decide_eq_false hf]
        simp
    by_cases hv : v < 0
    · exact Ev.pos_ hv (hj true (by simp [hv]))
    · refine Ev.neg_ hv (hj _ ?_)
      rw [beq_iff_eq]
      omega
theorem ba_ev (c p : List ByteArray) (v : Int) (i : Nat) (hcp : c.length = p.length) (hc : c.length ≤ 8796093022208) (n : Nat) (hi : i < n) (h : lenOK c p n 0) :
    Ev (fun k => quietusref25_byteAt.f k c p v (i : Int)) ((cntN (fun y => decide (fitsN v (zf c p i) y)) 256 0 : Nat) : Int) := by
  have := ba_l0 c p v i hcp hc n hi h 256 0 0 (by omega) (by omega)
  rw [Nat.zero_add] at this
  exact this
theorem rag_l1 (c p : List ByteArray) (kn : List Int) (hcp : c.length = p.length) (hk : kn.length ≤ 17592186044416) (hc : c.length ≤ 8796093022208) (h : lenOK c p kn.length 0) : ∀ (d i : Nat), i + d = kn.length → ∀ n : Int, 0 ≤ n → n ≤ (i : Int) →
    Ev (fun k => quietusref25_Agree.l1 k c p kn n (i : Int)) (walkN (zf c p) (kn.drop i) i n) := by
  intro d
  induction d with
  | zero =>
    intro i hi n hn0 hn
    refine Ev.step (fun k => by rw [quietusref25_Agree.l1]) ?_
    rw [List.drop_of_length_le (by omega)]
    exact Ev.neg_ (by omega) (Ev.now _)
  | succ d ih =>
    intro i hi n hn0 hn
    refine Ev.step (fun k => by rw [quietusref25_Agree.l1]) ?_
    rw [rd_nat kn i (by omega), List.drop_eq_getElem_cons (by omega : i < kn.length)]
    refine Ev.pos_ (by omega) (Ev.pos_ (by omega) ?_)
    have hbad : Ev (fun k => quietusref25_Agree.j2 k c p kn n (i : Int) true) (0, false) := by
      refine Ev.step (fun k => by rw [quietusref25_Agree.j2]) ?_
      exact Ev.pos_ rfl (Ev.now _)
    unfold walkN
    by_cases h1 : (kn[i]'(by omega)) < -1
    · rw [if_pos (Or.inl h1)]
      exact Ev.pos_ h1 hbad
    · refine Ev.neg_ h1 ?_
      by_cases h2 : (kn[i]'(by omega)) > 255
      · rw [if_pos (Or.inr h2), decide_eq_true h2]
        exact hbad
      · rw [if_neg (by omega), decide_eq_false h2]
        refine Ev.step (fun k => by rw [quietusref25_Agree.j2]) ?_
        refine Ev.neg_ (by simp) (Ev.pos_ (by omega) (Ev.pos_ (by omega) ?_))
        rw [rd_nat kn i (by omega)]
        refine Ev.bind (ba_ev c p _ i hcp hc kn.length (by omega) h) ?_
        rw [w64 (n := (i : Int) + 1) (by omega) (by omega), w64 (n := n + 1) (by omega) (by omega)]
        rcases step_fits (zf c p i) (kn[i]'(by omega)) (by omega) (zf_lt c p i) with ⟨e1, e2⟩ | ⟨w, e1, e2, e3⟩ | ⟨w, e1, e2, e3, e4⟩
        · rw [e1, cntN_none _ 256 0 (fun y _ _ => decide_eq_false (e2 y))]
          exact Ev.pos_ rfl (Ev.now _)
        · rw [e1, cntN_all _ 256 0 (fun y => decide_eq_true (e3 y))]
          refine Ev.neg_ (by decide) (Ev.pos_ rfl ?_)
          show Ev _ (walkN _ _ _ (if w < 0 then n + 1 else n))
          rw [if_pos e2]
          exact ih (i + 1) (by omega) (n + 1) (by omega) (by omega)
        · rw [e1, cntN_one _ w (decide_eq_true e3) (fun y hy => decide_eq_false (e4 y hy)) 256 0 (by omega) (by omega)]
          refine Ev.neg_ (by decide) (Ev.neg_ (by decide) ?_)
          show Ev _ (walkN _ _ _ (if (w : Int) < 0 then n + 1 else n))
          rw [if_neg (by omega)]
          exact ih (i + 1) (by omega) n (by omega) (by omega)
theorem rag_l0 (c p : List ByteArray) (kn : List Int) (hcp : c.length = p.length) (hc : c.length ≤ 8796093022208) (R : Int × Bool) (hR : lenOK c p kn.length 0 → Ev (fun k => quietusref25_Agree.l1 k c p kn 0 0) R) : ∀ (d i : Nat), i + d = c.length →
    (∀ j, j < i → (h : j < c.length) → (h' : j < p.length) → c[j].size = kn.length ∧ p[j].size = kn.length) → Ev (fun k => quietusref25_Agree.l0 k c p kn (i : Int)) (if lenOK c p kn.length 0 then R else (0, false)) := by
  intro d
  induction d with
  | zero =>
    intro i hi hb
    have hok : lenOK c p kn.length 0 := fun j _ h h' => hb j (by omega) h h'
    rw [if_pos hok]
    refine Ev.step (fun k => by rw [quietusref25_Agree.l0]) ?_
    exact Ev.neg_ (by omega) (hR hok)
  | succ d ih =>
    intro i hi hb
    refine Ev.step (fun k => by rw [quietusref25_Agree.l0]) ?_
    rw [rdOf_nat c i (by omega), rdOf_nat p i (by omega)]
    refine Ev.pos_ (by omega) (Ev.pos_ (by omega) ?_)
    by_cases h1 : (c[i]'(by omega)).size = kn.length
    · refine Ev.pos_ (by omega) (Ev.pos_ (by omega) ?_)
      by_cases h2 : (p[i]'(by omega)).size = kn.length
      · refine Ev.pos_ (by omega) ?_
        rw [w64 (by omega) (by omega)]
        refine ih (i + 1) (by omega) (fun j hj h h' => ?_)
        by_cases he : j = i
        · subst he
          exact ⟨h1, h2⟩
        · exact hb j (by omega) h h'
      · rw [if_neg (fun hok : lenOK c p kn.length 0 => h2 (hok i (by omega) (by omega) (by omega)).2)]
        exact Ev.neg_ (by omega) (Ev.now _)
    · rw [if_neg (fun hok : lenOK c p kn.length 0 => h1 (hok i (by omega) (by omega) (by omega)).1)]
      exact Ev.neg_ (by omega) (Ev.now _)
theorem ragree_ev (c p : List ByteArray) (kn : List Int) (hk : kn.length ≤ 17592186044416) (hc : c.length ≤ 8796093022208) : Ev (fun k => quietusref25_Agree.f k c p kn) (agreeN c p kn) := by
  unfold quietusref25_Agree.f agreeN
  by_cases hcp : c.length = p.length
  · rw [if_pos hcp]
    refine Ev.pos_ (by omega) (rag_l0 c p kn hcp hc _ (fun h => ?_) c.length 0 (by omega) (fun j hj => absurd hj (by omega)))
    exact rag_l1 c p kn hcp hk hc h kn.length 0 (by omega) 0 (by omega) (by omega)
  · rw [if_neg hcp]
    exact Ev.neg_ (by omega) (Ev.now _)
theorem pagree_j (c p : List ByteArray) (kn : List Int) (hk : kn.length ≤ 17592186044416) (hc : c.length ≤ 8796093022208) (b : Bool) : Ev (fun k => quietuslaw25_PadsAgreeAsSpecified.j0 k c p kn b) true := by
  refine Ev.step (fun k => by rw [quietuslaw25_PadsAgreeAsSpecified.j0]) ?_
  cases b
  · refine Ev.neg_ (by simp) (Ev.bind (agree_ev c p kn hk hc) (Ev.bind (ragree_ev c p kn hk hc) (Ev.bind sanity25_ev ?_)))
    exact Ev.pos_ rfl (Ev.pos_ rfl (Ev.eq_ (Ev.now _) (by simp)))
  · exact Ev.pos_ rfl (Ev.bind sanity25_ev (Ev.now _))
theorem PurePadsAgreeAsSpecified.proof : PadsAgreeAsSpecified.Pure := by
  intro c p kn ⟨hc, _⟩ _ ⟨hk, _⟩
  refine Ev.rounds ?_
  unfold quietuslaw25_PadsAgreeAsSpecified.f
  by_cases h1 : (c.length : Int) > 5
  · exact Ev.pos_ h1 (pagree_j c p kn (by omega) (by omega) _)
  · refine Ev.neg_ h1 ?_
    by_cases h2 : (p.length : Int) > 5
    · exact Ev.pos_ h2 (pagree_j c p kn (by omega) (by omega) _)
    · exact Ev.neg_ h2 (pagree_j c p kn (by omega) (by omega) _)

end Go.Proofs.Ytgfnllaajaoljaa.QA
