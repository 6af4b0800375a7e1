-- What this claim does not use was left out by prune.py, a program of this session.
import Derived.Test.YteknbadjfojmbaaQA0
import Derived.Deep.Slices
import Derived.ChangeArms
import Derived.OpenShut
import Derived.DataElems
import Derived.ProofKit
import Derived.SizedLaws
namespace Go.Proofs.Yteknbadjfojmbaa.QA
open Go.RowKit Go.Proofs.YteknbadjfojmbaaW.PrintWords Go.Proofs.YteknbadjfojmbaaW.PrintLast Go.Proofs.YteknbadjfojmbaaW.PrintMore
set_option linter.unusedVariables false
set_option linter.unusedSimpArgs false
def Opens (P : Program) (T : TypeId) {α : Type} (d : Kd α) (good : α → Prop) : Prop :=
  P.cellsOf T = d.sz ∧ ∀ (H : Type) (enc : TypeId × Value → H) (W : World) (base : Nat) (sp : Nat → Bool) (hd : Bool) (m : Nat) (cs : List Value) (y : DataW H × List MemPlace),
    DataW.trod enc P W base sp hd m T cs = some y → (∀ n ∈ y.1.weights P T, n ≤ reachBytes) → ∃ x, d.K W x cs ∧ good x
theorem opens_int {P : Program} {T : TypeId} {k : IntKind} (ht : P.underlying T = some (.int k)) (hc : P.cellsOf T = 1) : Opens P T (Kd.int k) (fun n => (Lit.int k n).wf = true) := by
  refine ⟨hc, ?_⟩
  intro H enc W base sp hd m cs y h hw
  cases m with
  | zero => simp [DataW.trod] at h
  | succ m =>
    unfold DataW.trod at h
    rw [ht] at h
    split at h <;> simp_all
    rename_i k' n h1
    obtain ⟨⟨rfl, h2⟩, _⟩ := h
    exact ⟨n, rfl, h2⟩
theorem opens_arg {H : Type} {enc : TypeId × Value → H} {P : Program} {W : World} {sp : Nat → Bool} {hd : Bool} {T : TypeId} {α : Type} {d : Kd α} {good : α → Prop} {v : Value} {y : DataW H} {p : List MemPlace} (ho : Opens P T d good)
    (h : DataW.Trod enc P W 0 sp hd T v y p) {ts : List TypeId} {ds : List (DataW H)} (hsz : (DataW.weightsEach P ts ds).all (· ≤ reachBytes) = true) (j : Nat) (ht : ts[j]? = some T) (hd' : ds[j]? = some y) : ∃ x, d.K W x v.cells.toList ∧ good x := by
  obtain ⟨m, hm⟩ := h
  refine ho.2 H enc W 0 sp hd m _ _ hm (fun n hn => ?_)
  have := List.all_eq_true.1 hsz n (DataW.weights_mem_each ht hd' n hn)
  simpa using this
theorem okWide_int_ {P : Program} {w : World} {r : Reach} {base : Nat} {t : TypeId} {v : Value} {k : IntKind} (ht : P.underlying t = some (.int k)) (h : Value.okWide P w r base t v) : ∃ a, v = .int k a := by
  simp only [Value.okWide, ht] at h
  cases v <;> simp_all [Cell.okWide, Cell.ok]
end Go.Proofs.Yteknbadjfojmbaa.QA
