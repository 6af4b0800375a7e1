-- What this claim does not use was left out by prune.py, a program of this session.
import Derived.Test.YteknbadjfojmbaaQA0
import Derived.Deep.Slices
import Derived.ChangeArms
import Derived.OpenShut
import Derived.DataElems
import Derived.ProofKit
import Derived.SizedLaws
namespace Go.Proofs.Yteknbadjfojmbaa.QA
open Go.RowKit Go.Proofs.YteknbadjfojmbaaW.PrintWords Go.Proofs.YteknbadjfojmbaaW.PrintLast Go.Proofs.YteknbadjfojmbaaW.PrintMore
set_option linter.unusedVariables false
set_option linter.unusedSimpArgs false
def Opens (P : Program) (T : TypeId) {α : Type} (d : Kd α) (good : α → Prop) : Prop :=
  P.cellsOf T = d.sz ∧ ∀ (H : Type) (enc : TypeId × Value → H) (W : World) (base : Nat) (sp : Nat → Bool) (hd : Bool) (m : Nat) (cs : List Value) (y : DataW H × List MemPlace),
    DataW.trod enc P W base sp hd m T cs = some y → (∀ n ∈ y.1.weights P T, n ≤ reachBytes) → ∃ x, d.K W x cs ∧ good x
theorem opens_int {P : Program} {T : TypeId} {k : IntKind} (ht : P.underlying T = some (.int k)) (hc : P.cellsOf T = 1) : Opens P T (Kd.int k) (fun n => (Lit.int k n).wf = true) := by
  refine ⟨hc, ?_⟩
  intro H enc W base sp hd m cs y h hw
  cases m with
  | zero => simp [DataW.trod] at h
  | succ m =>
    unfold DataW.trod at h
    rw [ht] at h
    split at h <;> simp_all
    rename_i k' n h1
    obtain ⟨⟨rfl, h2⟩, _⟩ := h
    exact ⟨n, rfl, h2⟩
theorem weightsAll_mem {H : Type} {P : Program} {e : TypeId} : ∀ {l : List (DataW H)} {d : DataW H}, d ∈ l → ∀ n ∈ d.weights P e, n ∈ DataW.weightsAll P e l
  | x :: l, d, hd, n, hn => by
    rw [DataW.weightsAll, List.mem_append]
    rcases List.mem_cons.1 hd with rfl | h
    · exact .inl hn
    · exact .inr (weightsAll_mem h n hn)
theorem row_of_cells {α : Type} (d : Kd α) (good : α → Prop) {W : World} {a : Addr} : ∀ (n : Nat) (rows : Nat → List Value), (∀ i, i < n → ∃ x, d.K W x (rows i) ∧ good x) → (∀ i j u, i < n → (rows i)[j]? = some u → W.cell? (a.add (i * d.sz + j)) = some u) → n ≤ 9223372036854775807 →
    ∃ xs : List α, d.C W (some a) n xs ∧ xs.length = n ∧ ∀ x ∈ xs, good x := by
  intro n rows hK hcell hmax
  have hx : ∃ f : (i : Nat) → i < n → α, ∀ i h, d.K W (f i h) (rows i) ∧ good (f i h) := ⟨fun i h => Classical.choose (hK i h), fun i h => Classical.choose_spec (hK i h)⟩
  obtain ⟨f, hf⟩ := hx
  refine ⟨(List.finRange n).map fun i => f i.1 i.2, ⟨by simp, hmax, fun _ => ⟨a, rfl, ?_⟩⟩, by simp, ?_⟩
  · intro j p hp
    rw [List.getElem?_map] at hp
    obtain ⟨q, hq, rfl⟩ := Option.map_eq_some_iff.1 hp
    have hj : j < n := by
      have := (List.getElem?_eq_some_iff.1 hq).1
      simpa using this
    have hq2 : q = ⟨j, hj⟩ := by
      have h2 := (List.getElem?_eq_some_iff.1 hq).2
      rw [← h2]
      simp
    subst hq2
    exact ⟨rows j, d.K_len (hf j hj).1, (hf j hj).1, fun i u hu => hcell j i u hj hu⟩
  · intro x hx
    obtain ⟨i, _, rfl⟩ := List.mem_map.1 hx
    exact (hf i.1 i.2).2
theorem opens_slice {P : Program} {T e : TypeId} {α : Type} {d : Kd α} {good : α → Prop} (ht : P.underlying T = some (.slice e)) (hc : P.cellsOf T = 1) {B : Nat} (hB : P.bytesOf e = B) (he : Opens P e d good) : Opens P T (Kd.slice e d) (fun xs => xs.length * B ≤ 140737488351232 ∧ ∀ x ∈ xs, good x) := by
  refine ⟨hc, ?_⟩
  intro H enc W base sp hd m cs y h hw
  rcases Go.Deep.open_slice ht h with ⟨rfl, _⟩ | ⟨a, len, cap, m', n, D, Pl, rfl, _, h2, h3, hm, hy, hx⟩
  · exact ⟨[], ⟨none, 0, rfl, by simp, Kd.C_nil d W⟩, by simp⟩
  · have hlm : len ≤ m' := by rw [hm]; split <;> omega
    rw [he.1] at hx
    obtain ⟨xs, hC, hl, hg⟩ := row_of_cells (a := a) d good (W := W) len (fun i => ((W.cells? base (a.add (i * d.sz)) d.sz).getD [])) (by
        intro i hi
        obtain ⟨c, hc1, hc2⟩ := hx i (by omega)
        obtain ⟨x, hx1, hgx⟩ := he.2 H enc W base sp hd n c _ hc2 (fun q hq => hw q (by
          rw [hy]
          simp only [DataW.weights, ht, List.mem_cons, List.mem_append]
          exact .inr (.inl (weightsAll_mem (List.mem_map.2 ⟨i, List.mem_range.2 hi, rfl⟩) q hq))))
        exact ⟨x, by rw [hc1]; exact hx1, hgx⟩) (by
        intro i j u hi hu
        obtain ⟨c, hc1, hc2⟩ := hx i (by omega)
        rw [hc1] at hu
        have hu' : c[j]? = some u := hu
        obtain ⟨_, h4, h5⟩ := World.cells?_some hc1
        have hj : j < d.sz := by rw [← h4]; exact (List.getElem?_eq_some_iff.1 hu').1
        have := h5 j hj
        rw [Addr.add_add, hu'] at this
        exact this) (by unfold maxLen at h3; omega)
    subst hl
    refine ⟨xs, ⟨some a, cap, rfl, h2, hC⟩, ?_, hg⟩
    have h6 := hw ((xs.length + (m' - xs.length)) * P.bytesOf e) (by
      rw [hy]
      simp [DataW.weights, ht])
    rw [hB] at h6
    exact Nat.le_trans (Nat.mul_le_mul_right _ (by omega)) h6
def Sec (P : Program) (T e : TypeId) (o : Nat) : Prop :=
  ∀ (H : Type) (enc : TypeId × Value → H) (W : World) (base : Nat) (sp : Nat → Bool) (hd : Bool) (m : Nat) (cs : List Value) (y : DataW H × List MemPlace),
    DataW.trod enc P W base sp hd m T cs = some y → cs.length = P.cellsOf T ∧ ∃ (m' : Nat) (y' : DataW H × List MemPlace), DataW.trod enc P W base sp hd m' e ((cs.drop o).take (P.cellsOf e)) = some y' ∧ ∀ n ∈ y'.1.weights P e, n ∈ y.1.weights P T
theorem sec_struct {P : Program} {T : TypeId} {fs : Array Field} (ht : P.underlying T = some (.struct fs)) (i : Nat) (f : Field) (hf : fs[i]? = some f) : Sec P T f.type f.offset := by
  intro H enc W base sp hd m cs y h
  obtain ⟨xs, n, _, hy, hl, hn, hx⟩ := DataW.trod_struct ht h
  have hi : i < xs.length := by
    rw [hn]
    exact (Array.getElem?_eq_some_iff.1 hf).1
  have := hx i f hf
  rw [List.getElem?_eq_getElem hi] at this
  refine ⟨hl, n, _, this, fun q hq => ?_⟩
  rw [hy]
  simp only [DataW.weights, ht]
  exact DataW.weights_mem_each (j := i) (t := f.type) (d := (xs[i]).1) (by rw [List.getElem?_map, Array.getElem?_toList, hf]; rfl) (by rw [List.getElem?_map, List.getElem?_eq_getElem hi]; rfl) q hq
def From (P : Program) (T : TypeId) (o : Nat) {α : Type} (d : Kd α) (good : α → Prop) : Prop :=
  o + d.sz = P.cellsOf T ∧ ∀ (H : Type) (enc : TypeId × Value → H) (W : World) (base : Nat) (sp : Nat → Bool) (hd : Bool) (m : Nat) (cs : List Value) (y : DataW H × List MemPlace),
    DataW.trod enc P W base sp hd m T cs = some y → (∀ n ∈ y.1.weights P T, n ≤ reachBytes) → ∃ x, d.K W x (cs.drop o) ∧ good x
theorem from_last {P : Program} {T e : TypeId} {o : Nat} {α : Type} {d : Kd α} {good : α → Prop} (hs : Sec P T e o) (he : Opens P e d good) (ho : o + d.sz = P.cellsOf T) : From P T o d good := by
  refine ⟨ho, ?_⟩
  intro H enc W base sp hd m cs y h hw
  obtain ⟨hl, m', y', h', hq⟩ := hs H enc W base sp hd m cs y h
  obtain ⟨x, hx, hg⟩ := he.2 H enc W base sp hd m' _ y' h' (fun n hn => hw n (hq n hn))
  rw [List.take_of_length_le (by rw [List.length_drop, he.1]; omega)] at hx
  exact ⟨x, hx, hg⟩
theorem from_cons {P : Program} {T e : TypeId} {o : Nat} {α β : Type} {d : Kd α} {good : α → Prop} {d2 : Kd β} {good2 : β → Prop} (hs : Sec P T e o) (he : Opens P e d good) (hr : From P T (o + d.sz) d2 good2) : From P T o (Kd.pair d d2) (fun x => good x.1 ∧ good2 x.2) := by
  refine ⟨by have := hr.1; show o + (d.sz + d2.sz) = _; omega, ?_⟩
  intro H enc W base sp hd m cs y h hw
  obtain ⟨hl, m', y', h', hq⟩ := hs H enc W base sp hd m cs y h
  obtain ⟨x, hx, hg⟩ := he.2 H enc W base sp hd m' _ y' h' (fun n hn => hw n (hq n hn))
  obtain ⟨x2, hx2, hg2⟩ := hr.2 H enc W base sp hd m cs y h hw
  refine ⟨(x, x2), ⟨_, _, ?_, hx, hx2⟩, hg, hg2⟩
  rw [he.1, ← List.drop_drop, List.take_append_drop]
theorem opens_from {P : Program} {T : TypeId} {α : Type} {d : Kd α} {good : α → Prop} (h : From P T 0 d good) : Opens P T d good := by
  refine ⟨by have := h.1; omega, ?_⟩
  intro H enc W base sp hd m cs y hy hw
  obtain ⟨x, hx, hg⟩ := h.2 H enc W base sp hd m cs y hy hw
  exact ⟨x, by simpa using hx, hg⟩
theorem opens_iso {P : Program} {T : TypeId} {α β : Type} {d : Kd α} {good : α → Prop} (h : Opens P T d good) (f : β → α) (g : α → β) (hfg : ∀ y, f (g y) = y) : Opens P T (Kd.iso d f) (fun x => good (f x)) := by
  refine ⟨h.1, ?_⟩
  intro H enc W base sp hd m cs y hy hw
  obtain ⟨x, hx, hg⟩ := h.2 H enc W base sp hd m cs y hy hw
  exact ⟨g x, by show d.K W (f (g x)) cs; rw [hfg]; exact hx, by show good (f (g x)); rw [hfg]; exact hg⟩
theorem opens_arg {H : Type} {enc : TypeId × Value → H} {P : Program} {W : World} {sp : Nat → Bool} {hd : Bool} {T : TypeId} {α : Type} {d : Kd α} {good : α → Prop} {v : Value} {y : DataW H} {p : List MemPlace} (ho : Opens P T d good)
    (h : DataW.Trod enc P W 0 sp hd T v y p) {ts : List TypeId} {ds : List (DataW H)} (hsz : (DataW.weightsEach P ts ds).all (· ≤ reachBytes) = true) (j : Nat) (ht : ts[j]? = some T) (hd' : ds[j]? = some y) : ∃ x, d.K W x v.cells.toList ∧ good x := by
  obtain ⟨m, hm⟩ := h
  refine ho.2 H enc W 0 sp hd m _ _ hm (fun n hn => ?_)
  have := List.all_eq_true.1 hsz n (DataW.weights_mem_each ht hd' n hn)
  simpa using this
end Go.Proofs.Yteknbadjfojmbaa.QA
