import Derived.Test.YtgfnllaajaoljaaQA4
import Derived.Test.YtgfnllaajaoljaaQA5
import Derived.Test.YtgfnllaajaoljaaPurePad
namespace Go.Proofs.Ytgfnllaajaoljaa.QA
open Go.RowKit Go.Proofs.YtgfnllaajaoljaaW.PrintWords Go.Proofs.YtgfnllaajaoljaaW.PrintLast Go.Proofs.YtgfnllaajaoljaaW.PrintMore
attribute [local go_sem] max2_int min2_int max_two min_two max_three min_three max_four min_four
set_option linter.unusedVariables false
set_option linter.unusedSimpArgs false
/-! Which pads agree, in plain Lean. -/
theorem sanity25_ev : Ev (fun k => quietuslaw25_sanity.f k) true := Ev.of (fun k => quietuslaw25_sanity.mono k) (k := 300) (by kernel_rfl)
theorem xor64 (a b : Nat) (ha : a < 256) (hb : b < 256) : Go.bits .xor .i64 (a : Int) (b : Int) = ((a ^^^ b : Nat) : Int) := by
  have hx := Nat.xor_lt_two_pow (n := 8) ha hb
  show IntKind.i64.wrap ((BitVec.ofInt 64 (a : Int) ^^^ BitVec.ofInt 64 (b : Int)).toNat : Int) = _
  rw [BitVec.toNat_xor, BitVec.ofInt_natCast, BitVec.ofInt_natCast, BitVec.toNat_ofNat, BitVec.toNat_ofNat, Nat.mod_eq_of_lt (show a < 2 ^ 64 by omega), Nat.mod_eq_of_lt (show b < 2 ^ 64 by omega), IntKind.wrap_i64]
  omega
def stepN : Int → List Nat → Option Int
  | v, [] => some v
  | v, z :: t => if v ≥ 0 then (if v = (z : Int) then stepN (z : Int) t else none) else stepN (z : Int) t
theorem stepN_cons (v : Int) (z : Nat) (t : List Nat) : stepN v (z :: t) = if v ≥ 0 then (if v = (z : Int) then stepN (z : Int) t else none) else stepN (z : Int) t := by rw [stepN]
theorem stepN_nil (v : Int) : stepN v [] = some v := by rw [stepN]
def pickN (R : Int → Int × Bool) (n : Int) : Option Int → Int × Bool
  | none => (0, false)
  | some w => R (if w < 0 then n + 1 else n)
def zf (c p : List ByteArray) (i : Nat) : List Nat := List.zipWith (fun s t => byt s i ^^^ byt t i) c p
def walkN (F : Nat → List Nat) : List Int → Nat → Int → Int × Bool
  | [], _, n => (n, true)
  | v :: t, i, n => if v < -1 ∨ v > 255 then (0, false) else
    pickN (fun m => walkN F t (i + 1) m) n (stepN v (F i))
theorem zf_len (c p : List ByteArray) (i : Nat) : (zf c p i).length = min c.length p.length := List.length_zipWith
theorem zf_get (c p : List ByteArray) (i k : Nat) (h : k < (zf c p i).length) (h1 : k < c.length) (h2 : k < p.length) : (zf c p i)[k] = byt c[k] i ^^^ byt p[k] i := List.getElem_zipWith
def lenOK (c p : List ByteArray) (n : Nat) (i : Nat) : Prop := ∀ j, i ≤ j → (h : j < c.length) → (h' : j < p.length) → c[j].size = n ∧ p[j].size = n
noncomputable instance (c p : List ByteArray) (n i : Nat) : Decidable (lenOK c p n i) := Classical.propDecidable _
noncomputable def agreeN (c p : List ByteArray) (kn : List Int) : Int × Bool := if c.length = p.length then (if lenOK c p kn.length 0 then walkN (zf c p) kn 0 0 else (0, false)) else (0, false)
theorem zf_lt (c p : List ByteArray) (i : Nat) : ∀ z ∈ zf c p i, z < 256 := by
  intro z hz
  obtain ⟨k, hk, rfl⟩ := List.mem_iff_getElem.1 hz
  have hl := zf_len c p i
  rw [zf_get c p i k hk (by omega) (by omega)]
  exact xor256 _ _ (byt_lt _ _) (byt_lt _ _)
theorem rd_nat (l : List Int) (i : Nat) (h : i < l.length) : rd l (i : Int) = l[i] := by
  unfold rd
  rw [Int.toNat_natCast, List.getD_eq_getElem?_getD, List.getElem?_eq_getElem h]
  rfl
theorem ag_l2 (c p : List ByteArray) (kn : List Int) (n : Int) (i : Nat) (hcp : c.length = p.length) (hi : i < kn.length) (hk : kn.length ≤ 17592186044416) (hc : c.length ≤ 8796093022208) (h : lenOK c p kn.length 0) (hn0 : 0 ≤ n) (hn : n ≤ (i : Int)) (R : Int → Int × Bool)
    (hR : ∀ m : Int, 0 ≤ m → m ≤ (i : Int) + 1 → Ev (fun k => pad_Agree.l1 k c p m true kn (kn.length : Int) ((i + 1 : Nat) : Int)) (R m)) : ∀ (d j : Nat), j + d = c.length → ∀ v : Int,
    Ev (fun k => pad_Agree.l2 k c p n true (i : Int) v kn (kn.length : Int) (i : Int) c (c.length : Int) (j : Int)) (pickN R n (stepN v ((zf c p i).drop j))) := by
  have hzl : (zf c p i).length = c.length := by rw [zf_len]; omega
  intro d
  induction d with
  | zero =>
    intro j hj v
    refine Ev.step (fun k => by rw [pad_Agree.l2]) ?_
    rw [List.drop_of_length_le (by omega)]
    refine Ev.neg_ (by omega) ?_
    rw [stepN_nil]
    show Ev _ (R (if v < 0 then n + 1 else n))
    by_cases hv : v < 0
    · rw [if_pos hv]
      refine Ev.pos_ hv ?_
      rw [w64 (by omega) (by omega), w64 (by omega) (by omega)]
      exact hR _ (by omega) (by omega)
    · rw [if_neg hv]
      refine Ev.neg_ hv ?_
      rw [w64 (by omega) (by omega)]
      exact hR _ (by omega) (by omega)
  | succ d ih =>
    intro j hj v
    have hs := h j (by omega) (by omega) (by omega)
    refine Ev.step (fun k => by rw [pad_Agree.l2]) ?_
    rw [rdOf_nat c j (by omega), rdOf_nat p j (by omega)]
    refine Ev.pos_ (by omega) (Ev.pos_ (by omega) (Ev.pos_ (by omega) (Ev.pos_ (by omega) (Ev.pos_ (by omega) (Ev.pos_ (by omega) (Ev.pos_ (by omega) ?_))))))
    have hz : (zf c p i)[j]'(by omega) = byt (c[j]'(by omega)) i ^^^ byt (p[j]'(by omega)) i := zf_get c p i j _ _ _
    rw [List.drop_eq_getElem_cons (by omega : j < (zf c p i).length), hz, byt_bt, byt_bt, xor8 _ _ (byt_lt _ _) (byt_lt _ _)]
    have hz256 := xor256 _ _ (byt_lt (c[j]'(by omega)) i) (byt_lt (p[j]'(by omega)) i)
    rw [w64 (n := ((byt (c[j]'(by omega)) i ^^^ byt (p[j]'(by omega)) i : Nat) : Int)) (by omega) (by omega), w64 (by omega) (by omega)]
    have hnext := ih (j + 1) (by omega) ((byt (c[j]'(by omega)) i ^^^ byt (p[j]'(by omega)) i : Nat) : Int)
    rw [stepN_cons]
    by_cases hv : v ≥ 0
    · rw [if_pos hv]
      refine Ev.pos_ hv ?_
      by_cases he : v = ((byt (c[j]'(by omega)) i ^^^ byt (p[j]'(by omega)) i : Nat) : Int)
      · rw [if_pos he]
        exact Ev.pos_ he hnext
      · rw [if_neg he]
        exact Ev.neg_ he (Ev.now _)
    · rw [if_neg hv]
      exact Ev.neg_ hv hnext
theorem ag_l1 (c p : List ByteArray) (kn : List Int) (hcp : c.length = p.length) (hk : kn.length ≤ 17592186044416) (hc : c.length ≤ 8796093022208) (h : lenOK c p kn.length 0) : ∀ (d i : Nat), i + d = kn.length → ∀ n : Int, 0 ≤ n → n ≤ (i : Int) →
    Ev (fun k => pad_Agree.l1 k c p n true kn (kn.length : Int) (i : Int)) (walkN (zf c p) (kn.drop i) i n) := by
  intro d
  induction d with
  | zero =>
    intro i hi n hn0 hn
    refine Ev.step (fun k => by rw [pad_Agree.l1]) ?_
    rw [List.drop_of_length_le (by omega)]
    exact Ev.neg_ (by omega) (Ev.pos_ rfl (Ev.now _))
  | succ d ih =>
    intro i hi n hn0 hn
    refine Ev.step (fun k => by rw [pad_Agree.l1]) ?_
    rw [rd_nat kn i (by omega), List.drop_eq_getElem_cons (by omega : i < kn.length)]
    refine Ev.pos_ (by omega) (Ev.pos_ (by omega) (Ev.pos_ (by omega) ?_))
    have hbad : Ev (fun k => pad_Agree.j2 k c p n true (i : Int) (kn[i]'(by omega)) kn (kn.length : Int) (i : Int) true) (0, false) := by
      refine Ev.step (fun k => by rw [pad_Agree.j2]) ?_
      exact Ev.pos_ rfl (Ev.now _)
    unfold walkN
    by_cases h1 : (kn[i]'(by omega)) < -1
    · rw [if_pos (Or.inl h1)]
      exact Ev.pos_ h1 hbad
    · refine Ev.neg_ h1 ?_
      by_cases h2 : (kn[i]'(by omega)) > 255
      · rw [if_pos (Or.inr h2), decide_eq_true h2]
        exact hbad
      · rw [if_neg (by omega), decide_eq_false h2]
        refine Ev.step (fun k => by rw [pad_Agree.j2]) ?_
        refine Ev.neg_ (by simp) ?_
        exact ag_l2 c p kn n i hcp (by omega) hk hc h hn0 hn (fun m => walkN (zf c p) (kn.drop (i + 1)) (i + 1) m) (fun m h0 h1 => ih (i + 1) (by omega) m h0 (by omega)) c.length 0 (by omega) _
theorem ag_l0 (c p : List ByteArray) (kn : List Int) (hcp : c.length = p.length) (hc : c.length ≤ 8796093022208) (R : Int × Bool) (hR : lenOK c p kn.length 0 → Ev (fun k => pad_Agree.l1 k c p 0 true kn (kn.length : Int) 0) R) : ∀ (d i : Nat), i + d = c.length →
    (∀ j, j < i → (h : j < c.length) → (h' : j < p.length) → c[j].size = kn.length ∧ p[j].size = kn.length) → Ev (fun k => pad_Agree.l0 k c p kn c (c.length : Int) (i : Int)) (if lenOK c p kn.length 0 then R else (0, false)) := by
  intro d
  induction d with
  | zero =>
    intro i hi hb
    have hok : lenOK c p kn.length 0 := fun j _ h h' => hb j (by omega) h h'
    rw [if_pos hok]
    refine Ev.step (fun k => by rw [pad_Agree.l0]) ?_
    exact Ev.neg_ (by omega) (hR hok)
  | succ d ih =>
    intro i hi hb
    refine Ev.step (fun k => by rw [pad_Agree.l0]) ?_
    rw [rdOf_nat c i (by omega), rdOf_nat p i (by omega)]
    refine Ev.pos_ (by omega) (Ev.pos_ (by omega) (Ev.pos_ (by omega) ?_))
    by_cases h1 : (c[i]'(by omega)).size = kn.length
    · refine Ev.pos_ (by omega) (Ev.pos_ (by omega) ?_)
      by_cases h2 : (p[i]'(by omega)).size = kn.length
      · refine Ev.pos_ (by omega) ?_
        rw [w64 (by omega) (by omega)]
        refine ih (i + 1) (by omega) (fun j hj h h' => ?_)
        by_cases he : j = i
        · subst he
          exact ⟨h1, h2⟩
        · exact hb j (by omega) h h'
      · rw [if_neg (fun hok : lenOK c p kn.length 0 => h2 (hok i (by omega) (by omega) (by omega)).2)]
        exact Ev.neg_ (by omega) (Ev.now _)
    · rw [if_neg (fun hok : lenOK c p kn.length 0 => h1 (hok i (by omega) (by omega) (by omega)).1)]
      exact Ev.neg_ (by omega) (Ev.now _)
theorem agree_ev (c p : List ByteArray) (kn : List Int) (hk : kn.length ≤ 17592186044416) (hc : c.length ≤ 8796093022208) : Ev (fun k => pad_Agree.f k c p kn) (agreeN c p kn) := by
  unfold pad_Agree.f agreeN
  by_cases hcp : c.length = p.length
  · rw [if_pos hcp]
    refine Ev.pos_ (by omega) (ag_l0 c p kn hcp hc _ (fun h => ?_) c.length 0 (by omega) (fun j hj => absurd hj (by omega)))
    exact ag_l1 c p kn hcp hk hc h kn.length 0 (by omega) 0 (by omega) (by omega)
  · rw [if_neg hcp]
    exact Ev.neg_ (by omega) (Ev.now _)

end Go.Proofs.Ytgfnllaajaoljaa.QA
