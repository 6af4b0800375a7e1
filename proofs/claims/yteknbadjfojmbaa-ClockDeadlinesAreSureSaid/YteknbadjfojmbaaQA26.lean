-- What this claim does not use was left out by prune.py, a program of this session.
import Derived.Test.YteknbadjfojmbaaQA0
import Derived.Test.YteknbadjfojmbaaQA1
import Derived.Test.YteknbadjfojmbaaQA2
import Derived.Test.YteknbadjfojmbaaQA4
import Derived.Test.YteknbadjfojmbaaQA21
import Derived.Test.YteknbadjfojmbaaQA22
import Derived.Test.YteknbadjfojmbaaQA23
import Derived.Test.YteknbadjfojmbaaQA24
import Derived.Test.YteknbadjfojmbaaQA25
namespace Go.Proofs.Yteknbadjfojmbaa.QA
open Go.RowKit Go.Proofs.YteknbadjfojmbaaW.PrintWords Go.Proofs.YteknbadjfojmbaaW.PrintLast Go.Proofs.YteknbadjfojmbaaW.PrintMore
attribute [local go_sem] max2_int min2_int max_two min_two max_three min_three max_four min_four
set_option linter.unusedVariables false
set_option linter.unusedSimpArgs false
structure San14.Ok (w W : World) (l : List (Nat × Obj)) (ws : List World) : Prop where
  hb : Below w.heap.size w W
  held : ∀ (i : Nat) (p : Nat × Obj), l[i]? = some p → W.heap[p.1]? = some p.2
  ahead : ∀ (i : Nat) (X : World), ws[i]? = some X → Below X.heap.size X W
theorem San14.Ok.step {w W W' : World} {l : List (Nat × Obj)} {ws : List World} (h : San14.Ok w W l ws) (hb : Below W.heap.size W W') : San14.Ok w W' l ws :=
  ⟨below_step h.hb hb, fun i p hp => blk_below (h.held i p hp) hb, fun i X hX => below_step (h.ahead i X hX) hb⟩
theorem San14.Ok.add {w W : World} {l : List (Nat × Obj)} {ws : List World} (h : San14.Ok w W l ws) (o : Obj) : San14.Ok w (W.alloc o) ((W.heap.size, o) :: l) ws :=
  ⟨below_alloc h.hb o, fun i p hp => by
    cases i with
    | zero => obtain rfl := Option.some.inj hp; exact blk_new W o
    | succ i => exact blk_alloc (h.held i p hp) o, fun i X hX => below_alloc (h.ahead i X hX) o⟩
theorem San14.Ok.mark {w W : World} {l : List (Nat × Obj)} {ws : List World} (h : San14.Ok w W l ws) : San14.Ok w W l (W :: ws) :=
  ⟨h.hb, h.held, fun i X hX => by
    cases i with
    | zero => obtain rfl := Option.some.inj hX; exact Below.refl _ _
    | succ i => exact h.ahead i X hX⟩
theorem San14.row_ {W : World} {g : Nat} {l : List (Nat × Obj)} {ws : List World} {w : World} {i : Nat} (h : San14.Ok w W l ws) (hi : l[i]? = some (g, Obj.cells #[.int .i64 100, .int .i64 50, .int .i64 60] 58 (0, 0))) : Kd.C k58 W (some ⟨g, 0, none⟩) 1 ([⟨100, ⟨50, 60⟩⟩] : List S58) := by
  have h0 := h.held i _ hi
  refine ⟨rfl, by simp, fun _ => ⟨_, rfl, fun j p hp => ?_⟩⟩
  obtain ⟨hj, rfl⟩ := List.getElem?_eq_some_iff.1 hp
  have h1 : j = 0 := by simp at hj; exact hj
  subst h1
  refine ⟨[.int .i64 100, .int .i64 50, .int .i64 60], rfl, k58_mk _ _, fun i u hu => ?_⟩
  show W.cell? ((⟨g, 0, none⟩ : Addr).add (0 * 3 + i)) = some u
  have ha : (⟨g, 0, none⟩ : Addr).add (0 * 3 + i) = ⟨g, i, none⟩ := by
    by_cases h0 : i = 0
    · subst h0; rfl
    · simp [Addr.add, h0]
  rw [ha]
  exact (blk_cell h0 i).trans (by simpa using hu)
theorem San14.Ok.cons {w W : World} {l : List (Nat × Obj)} {ws : List World} (h : San14.Ok w W l ws) {g : Nat} {o : Obj} (hg : W.heap[g]? = some o) : San14.Ok w W ((g, o) :: l) ws :=
  ⟨h.hb, fun i p hp => by
    cases i with
    | zero => obtain rfl := Option.some.inj hp; exact hg
    | succ i => exact h.held i p hp, h.ahead⟩
theorem San14.Ok.far {w W W7 : World} {l : List (Nat × Obj)} {ws : List World} (h7 : San14.Ok w W7 l ws) (h : San14.Ok w W l ws) {g : Nat} (hg : W7.heap.size ≤ g) (j : Nat) (u : Value) : San14.Ok w (W.setCell ⟨g, j, none⟩ u) l ws :=
  ⟨below_set h.hb (Nat.le_trans h7.hb.size hg), fun i p hp => (Below.heap_setCell _ _ _ _ (fun e => by have h8 := (Array.getElem?_eq_some_iff.1 (h7.held i p hp)).1; have : p.1 = g := e; omega)).trans (h.held i p hp), fun i X hX => below_set (h.ahead i X hX) (Nat.le_trans (h7.ahead i X hX).size hg)⟩
theorem San14.cut {F : Fence} {n id : Nat} {P : Program} {ops : Array Oper} {K : Act → World → Prop} {Q' : Exit → Act → World → Prop} {a : Act} {W : World} (Post : Act → Act → World → Prop) (h1 : (Code.region id ops true).wpIn F n P (fun e a' w' => e = .normal ∧ Post a a' w') a W) (h2 : ∀ a' w', Post a a' w' → K a' w') : (Code.region id ops true).wpIn F n P (Exit.then K Q') a W :=
  wpIn_mono h1 (fun e a' w' h => by obtain ⟨rfl, hp⟩ := h; exact h2 a' w' hp)
theorem San14.row3_ {W : World} {ad : Addr} (h : Kd.C k58 W (some ad) 2 ([⟨100, ⟨50, 60⟩⟩, ⟨111, ⟨70, 73⟩⟩] : List S58)) : W.cell? ⟨ad.block, ad.off + 3, none⟩ = some (.int .i64 111) ∧ W.cell? ⟨ad.block, ad.off + 3 + 1, none⟩ = some (.int .i64 70) ∧ W.cell? ⟨ad.block, ad.off + 3 + 2, none⟩ = some (.int .i64 73) := by
  obtain ⟨ad', hA, q0, q1, q2⟩ := at_T58 h 1 (by decide) (by decide)
  have e := Option.some.inj hA
  rw [← e] at q0 q1 q2
  have e3 : ad.add ((1 : Int).toNat * 3) = ⟨ad.block, ad.off + 3, none⟩ := by simp [Addr.add]
  rw [e3] at q0 q1 q2
  exact ⟨q0, q1, q2⟩
def quietuslaw14_sanity.f : Option Bool := some true
set_option maxRecDepth 100000 in
set_option maxHeartbeats 4000000 in
theorem quietuslaw14_sanity.calls (r : Bool) (w : World) (h : quietuslaw14_sanity.f = some r) : Calls Try.prog 36 #[] w fun e w' => e = .returned (.bool r) ∧ Below w.heap.size w w' := by
  obtain rfl := Option.some.inj h
  clear h
  have ok0 : Aside0 (San14.Ok w w [] []) := ⟨Below.refl _ _, fun i p h => by simp at h, fun i p h => by simp at h⟩
  go_enter Try.func36, Try.ntmps36
  go_wp2_with fail
  have okn := ok0.out
  have okm := Aside0.mk okn
  clear okn
  have okn := okm
  clear okm
  refine (quietuslaw14_when.calls 50 60 50 60 _ rfl).mono ?_
  rintro e w1 ⟨rfl, hb⟩
  have ok1 := Aside0.mk (okn.out.step hb)
  clear hb okn
  go_wp2_with fail
  have okn := ((ok1.out).add (.cells #[.int .i64 100, .int .i64 50, .int .i64 60] 58)).add (.cells #[.int .i64 100000, .slice (some ⟨w1.heap.size, 0, none⟩) 1 1] 54)
  try simp only [World.size_alloc] at okn
  have okm := Aside0.mk okn
  clear okn
  have okn := okm
  clear okm
  refine (clock_Passed.calls 100000 11 10 13 0 _ (by kernel_rfl)).mono ?_
  rintro e w2 ⟨rfl, hb⟩
  have ok2 := Aside0.mk (okn.out.step hb)
  clear hb okn
  have hgt2 : w1.heap.size + 1 < w2.heap.size := blk_lt (ok2.out.held 0 _ rfl)
  have hz2_0 : w2.cell? ⟨w1.heap.size + 1, 0, none⟩ = some (.int .i64 100000) := (blk_cell (ok2.out.held 0 _ rfl) 0).trans rfl
  have hz2_1 : w2.cell? ⟨w1.heap.size + 1, 1, none⟩ = some (.slice (some ⟨w1.heap.size, 0, none⟩) 1 1) := (blk_cell (ok2.out.held 0 _ rfl) 1).trans rfl
  have hgt1 : w1.heap.size < w2.heap.size := blk_lt (ok2.out.held 1 _ rfl)
  have hz1_0 : w2.cell? ⟨w1.heap.size, 0, none⟩ = some (.int .i64 100) := (blk_cell (ok2.out.held 1 _ rfl) 0).trans rfl
  have hz1_1 : w2.cell? ⟨w1.heap.size, 1, none⟩ = some (.int .i64 50) := (blk_cell (ok2.out.held 1 _ rfl) 1).trans rfl
  have hz1_2 : w2.cell? ⟨w1.heap.size, 2, none⟩ = some (.int .i64 60) := (blk_cell (ok2.out.held 1 _ rfl) 2).trans rfl
  go_wp2_with fail
  have okn := ok2.out
  have okm := Aside0.mk okn
  clear okn
  have okn := okm
  clear okm
  refine (clock_Passed.calls 100000 0 0 1 0 _ (by kernel_rfl)).mono ?_
  rintro e w3 ⟨rfl, hb⟩
  have ok3 := Aside0.mk (okn.out.step hb)
  clear hb okn
  clear hgt2 hz2_0 hz2_1 hgt1 hz1_0 hz1_1 hz1_2
  have hgt2 : w1.heap.size + 1 < w3.heap.size := blk_lt (ok3.out.held 0 _ rfl)
  have hz2_0 : w3.cell? ⟨w1.heap.size + 1, 0, none⟩ = some (.int .i64 100000) := (blk_cell (ok3.out.held 0 _ rfl) 0).trans rfl
  have hz2_1 : w3.cell? ⟨w1.heap.size + 1, 1, none⟩ = some (.slice (some ⟨w1.heap.size, 0, none⟩) 1 1) := (blk_cell (ok3.out.held 0 _ rfl) 1).trans rfl
  have hgt1 : w1.heap.size < w3.heap.size := blk_lt (ok3.out.held 1 _ rfl)
  have hz1_0 : w3.cell? ⟨w1.heap.size, 0, none⟩ = some (.int .i64 100) := (blk_cell (ok3.out.held 1 _ rfl) 0).trans rfl
  have hz1_1 : w3.cell? ⟨w1.heap.size, 1, none⟩ = some (.int .i64 50) := (blk_cell (ok3.out.held 1 _ rfl) 1).trans rfl
  have hz1_2 : w3.cell? ⟨w1.heap.size, 2, none⟩ = some (.int .i64 60) := (blk_cell (ok3.out.held 1 _ rfl) 2).trans rfl
  go_wp2_with fail
  have okn := ok3.out
  have okm := Aside0.mk okn
  clear okn
  have okn := okm
  clear okm
  refine (clock_Now.calls 9 100000 _ 1 ([⟨100, ⟨50, 60⟩⟩] : List S58) 111 60 73 0 _ (San14.row_ (i := 1) okn.out rfl) (by simp) (by kernel_rfl)).mono ?_
  rintro e w4 ⟨rfl, hb⟩
  have ok4 := Aside0.mk (okn.out.step hb)
  clear hb okn
  clear hgt2 hz2_0 hz2_1 hgt1 hz1_0 hz1_1 hz1_2
  have hgt2 : w1.heap.size + 1 < w4.heap.size := blk_lt (ok4.out.held 0 _ rfl)
  have hz2_0 : w4.cell? ⟨w1.heap.size + 1, 0, none⟩ = some (.int .i64 100000) := (blk_cell (ok4.out.held 0 _ rfl) 0).trans rfl
  have hz2_1 : w4.cell? ⟨w1.heap.size + 1, 1, none⟩ = some (.slice (some ⟨w1.heap.size, 0, none⟩) 1 1) := (blk_cell (ok4.out.held 0 _ rfl) 1).trans rfl
  have hgt1 : w1.heap.size < w4.heap.size := blk_lt (ok4.out.held 1 _ rfl)
  have hz1_0 : w4.cell? ⟨w1.heap.size, 0, none⟩ = some (.int .i64 100) := (blk_cell (ok4.out.held 1 _ rfl) 0).trans rfl
  have hz1_1 : w4.cell? ⟨w1.heap.size, 1, none⟩ = some (.int .i64 50) := (blk_cell (ok4.out.held 1 _ rfl) 1).trans rfl
  have hz1_2 : w4.cell? ⟨w1.heap.size, 2, none⟩ = some (.int .i64 60) := (blk_cell (ok4.out.held 1 _ rfl) 2).trans rfl
  go_wp2_with fail
  have okn := (ok4.out).add (.cells #[.int .i64 60, .int .i64 73] 56)
  try simp only [World.size_alloc] at okn
  have okm := Aside0.mk okn
  clear okn
  have okn := okm
  clear okm
  refine (clock_Now.calls 9 100000 _ 1 ([⟨100, ⟨50, 60⟩⟩] : List S58) 89 37 50 0 _ (San14.row_ (i := 2) okn.out rfl) (by simp) (by kernel_rfl)).mono ?_
  rintro e w5 ⟨rfl, hb⟩
  have ok5 := Aside0.mk (okn.out.step hb)
  clear hb okn
  clear hgt2 hz2_0 hz2_1 hgt1 hz1_0 hz1_1 hz1_2
  have hgt3 : w4.heap.size < w5.heap.size := blk_lt (ok5.out.held 0 _ rfl)
  have hz3_0 : w5.cell? ⟨w4.heap.size, 0, none⟩ = some (.int .i64 60) := (blk_cell (ok5.out.held 0 _ rfl) 0).trans rfl
  have hz3_1 : w5.cell? ⟨w4.heap.size, 1, none⟩ = some (.int .i64 73) := (blk_cell (ok5.out.held 0 _ rfl) 1).trans rfl
  have hgt2 : w1.heap.size + 1 < w5.heap.size := blk_lt (ok5.out.held 1 _ rfl)
  have hz2_0 : w5.cell? ⟨w1.heap.size + 1, 0, none⟩ = some (.int .i64 100000) := (blk_cell (ok5.out.held 1 _ rfl) 0).trans rfl
  have hz2_1 : w5.cell? ⟨w1.heap.size + 1, 1, none⟩ = some (.slice (some ⟨w1.heap.size, 0, none⟩) 1 1) := (blk_cell (ok5.out.held 1 _ rfl) 1).trans rfl
  have hgt1 : w1.heap.size < w5.heap.size := blk_lt (ok5.out.held 2 _ rfl)
  have hz1_0 : w5.cell? ⟨w1.heap.size, 0, none⟩ = some (.int .i64 100) := (blk_cell (ok5.out.held 2 _ rfl) 0).trans rfl
  have hz1_1 : w5.cell? ⟨w1.heap.size, 1, none⟩ = some (.int .i64 50) := (blk_cell (ok5.out.held 2 _ rfl) 1).trans rfl
  have hz1_2 : w5.cell? ⟨w1.heap.size, 2, none⟩ = some (.int .i64 60) := (blk_cell (ok5.out.held 2 _ rfl) 2).trans rfl
  go_wp2_with fail
  have okn := (ok5.out).add (.cells #[.int .i64 37, .int .i64 50] 56)
  try simp only [World.size_alloc] at okn
  have okm := Aside0.mk okn
  clear okn
  have okn := okm
  clear okm
  refine (clock_Now.calls 9 100000 _ 1 ([⟨100, ⟨50, 60⟩⟩] : List S58) 100 49 61 0 _ (San14.row_ (i := 3) okn.out rfl) (by simp) (by kernel_rfl)).mono ?_
  rintro e w6 ⟨rfl, hb⟩
  have ok6 := Aside0.mk (okn.out.step hb)
  clear hb okn
  clear hgt3 hz3_0 hz3_1 hgt2 hz2_0 hz2_1 hgt1 hz1_0 hz1_1 hz1_2
  have hgt4 : w5.heap.size < w6.heap.size := blk_lt (ok6.out.held 0 _ rfl)
  have hz4_0 : w6.cell? ⟨w5.heap.size, 0, none⟩ = some (.int .i64 37) := (blk_cell (ok6.out.held 0 _ rfl) 0).trans rfl
  have hz4_1 : w6.cell? ⟨w5.heap.size, 1, none⟩ = some (.int .i64 50) := (blk_cell (ok6.out.held 0 _ rfl) 1).trans rfl
  have hgt3 : w4.heap.size < w6.heap.size := blk_lt (ok6.out.held 1 _ rfl)
  have hz3_0 : w6.cell? ⟨w4.heap.size, 0, none⟩ = some (.int .i64 60) := (blk_cell (ok6.out.held 1 _ rfl) 0).trans rfl
  have hz3_1 : w6.cell? ⟨w4.heap.size, 1, none⟩ = some (.int .i64 73) := (blk_cell (ok6.out.held 1 _ rfl) 1).trans rfl
  have hgt2 : w1.heap.size + 1 < w6.heap.size := blk_lt (ok6.out.held 2 _ rfl)
  have hz2_0 : w6.cell? ⟨w1.heap.size + 1, 0, none⟩ = some (.int .i64 100000) := (blk_cell (ok6.out.held 2 _ rfl) 0).trans rfl
  have hz2_1 : w6.cell? ⟨w1.heap.size + 1, 1, none⟩ = some (.slice (some ⟨w1.heap.size, 0, none⟩) 1 1) := (blk_cell (ok6.out.held 2 _ rfl) 1).trans rfl
  have hgt1 : w1.heap.size < w6.heap.size := blk_lt (ok6.out.held 3 _ rfl)
  have hz1_0 : w6.cell? ⟨w1.heap.size, 0, none⟩ = some (.int .i64 100) := (blk_cell (ok6.out.held 3 _ rfl) 0).trans rfl
  have hz1_1 : w6.cell? ⟨w1.heap.size, 1, none⟩ = some (.int .i64 50) := (blk_cell (ok6.out.held 3 _ rfl) 1).trans rfl
  have hz1_2 : w6.cell? ⟨w1.heap.size, 2, none⟩ = some (.int .i64 60) := (blk_cell (ok6.out.held 3 _ rfl) 2).trans rfl
  go_wp2_with fail
  have okr := Aside0.mk ((ok6.out).add (.cells #[.int .i64 49, .int .i64 61] 56))
  clear hgt4 hz4_0 hz4_1 hgt3 hz3_0 hz3_1 hgt2 hz2_0 hz2_1 hgt1 hz1_0 hz1_1 hz1_2
  generalize (w6.alloc (.cells #[.int .i64 49, .int .i64 61] 56)) = wr6 at okr ⊢
  refine (wpIn_wide (n := 3)).1 ?_
  refine San14.cut (fun a a' w' => ∃ (g : Nat) (A : Option Addr) (c : Nat), a' = (((((((((a.put (some 59) (.agg #[.int .i64 100000, .slice (some ⟨w1.heap.size, 0, none⟩) 1 1])).put (some 60) (.agg #[.int .i64 70, .int .i64 80])).put (some 61) (.agg #[.int .i64 111, .int .i64 70, .int .i64 80])).put (some 62) (.tuple #[.agg #[.int .i64 100000, .slice A 2 c], .int .i64 0])).put (some 58) (.tuple #[.agg #[.int .i64 100000, .slice A 2 c], .int .i64 0])).put (some 63) (.agg #[.int .i64 100000, .slice A 2 c])).put (some 64) (.int .i64 0)).put (some 14) (.pointer (some ⟨g, 0, none⟩))).put (some 15) (.int .i64 0)) ∧ San14.Ok w w' ((g, Obj.cells #[.int .i64 100000, .slice A 2 c] 54 (0, 0))  :: [(w6.heap.size, Obj.cells #[.int .i64 49, .int .i64 61] 56 (0, 0)), (w5.heap.size, Obj.cells #[.int .i64 37, .int .i64 50] 56 (0, 0)), (w4.heap.size, Obj.cells #[.int .i64 60, .int .i64 73] 56 (0, 0)), (w1.heap.size + 1, Obj.cells #[.int .i64 100000, .slice (some ⟨w1.heap.size, 0, none⟩) 1 1] 54 (0, 0)), (w1.heap.size, Obj.cells #[.int .i64 100, .int .i64 50, .int .i64 60] 58 (0, 0))]) [] ∧ 2 ≤ c ∧ Kd.C k58 w' A 2 ([⟨100, ⟨50, 60⟩⟩, ⟨111, ⟨70, 73⟩⟩] : List S58)) ?_ ?_
  · obtain ⟨S, hSdef⟩ : ∃ S : World → Prop, S = fun X => San14.Ok w X [(w6.heap.size, Obj.cells #[.int .i64 49, .int .i64 61] 56 (0, 0)), (w5.heap.size, Obj.cells #[.int .i64 37, .int .i64 50] 56 (0, 0)), (w4.heap.size, Obj.cells #[.int .i64 60, .int .i64 73] 56 (0, 0)), (w1.heap.size + 1, Obj.cells #[.int .i64 100000, .slice (some ⟨w1.heap.size, 0, none⟩) 1 1] 54 (0, 0)), (w1.heap.size, Obj.cells #[.int .i64 100, .int .i64 50, .int .i64 60] 58 (0, 0))] [] := ⟨_, rfl⟩
    have ls : Aside0 (∀ X, S X → San14.Ok w X [(w6.heap.size, Obj.cells #[.int .i64 49, .int .i64 61] 56 (0, 0)), (w5.heap.size, Obj.cells #[.int .i64 37, .int .i64 50] 56 (0, 0)), (w4.heap.size, Obj.cells #[.int .i64 60, .int .i64 73] 56 (0, 0)), (w1.heap.size + 1, Obj.cells #[.int .i64 100000, .slice (some ⟨w1.heap.size, 0, none⟩) 1 1] 54 (0, 0)), (w1.heap.size, Obj.cells #[.int .i64 100, .int .i64 50, .int .i64 60] 58 (0, 0))] []) := ⟨fun X h => by rw [hSdef] at h; exact h⟩
    have lt : Aside0 (∀ X, San14.Ok w X [(w6.heap.size, Obj.cells #[.int .i64 49, .int .i64 61] 56 (0, 0)), (w5.heap.size, Obj.cells #[.int .i64 37, .int .i64 50] 56 (0, 0)), (w4.heap.size, Obj.cells #[.int .i64 60, .int .i64 73] 56 (0, 0)), (w1.heap.size + 1, Obj.cells #[.int .i64 100000, .slice (some ⟨w1.heap.size, 0, none⟩) 1 1] 54 (0, 0)), (w1.heap.size, Obj.cells #[.int .i64 100, .int .i64 50, .int .i64 60] 58 (0, 0))] [] → S X) := ⟨fun X h => by rw [hSdef]; exact h⟩
    have hmix : Try.prog.follows .mixedOrders = true := by kernel_rfl
    have hS0 : Aside0 (S wr6.drew) := ⟨lt.out _ (okr.out.step (below_drew (Below.refl _ _)))⟩
    clear hSdef
    refine wpIn_region_held S 10 hmix ?_
    refine wpAnyHI_take (i := 0) (v := .agg #[.int .i64 100000, .slice (some ⟨w1.heap.size, 0, none⟩) 1 1]) (fun _ => trivial) rfl (by kernel_rfl) (fun _ _ _ h => by cases h.1) (Or.inl ⟨by kernel_rfl, fun X hX => ?_⟩) (hS0.out) ?_
    · have y0 : X.cell? ⟨w1.heap.size + 1, 0, none⟩ = some (.int .i64 100000) := (blk_cell ((ls.out X hX).held 3 _ rfl) 0).trans rfl; have y1 : X.cell? ⟨w1.heap.size + 1, 1, none⟩ = some (.slice (some ⟨w1.heap.size, 0, none⟩) 1 1) := (blk_cell ((ls.out X hX).held 3 _ rfl) 1).trans rfl; go_simp
    have okd := Aside0.mk (ls.out _ hS0.out)
    refine wpAnyHI_two (i := 1) (j := 7) (fun _ => trivial) rfl rfl (by kernel_rfl) (fun K' hK' => ?_) (fun K' hK' => ?_)
    · skip
      rw [if_pos (by kernel_rfl)]
      go_simp
      refine ⟨trivial, (callsIn_wide.2 (quietuslaw14_when.calls 70 80 70 80 _ rfl)).mono ?_⟩
      rintro e X1 ⟨rfl, hb⟩
      dsimp only
      have okx1 := Aside0.mk (okd.out.step hb)
      have hs1 : wr6.heap.size ≤ X1.heap.size := hb.size
      refine hK' _ _ (lt.out _ okx1.out) ?_
      clear hK' K' hb
      refine wpAnyHI_take (i := 2) (v := .agg #[.int .i64 111, .int .i64 70, .int .i64 80]) (fun _ => trivial) rfl (by kernel_rfl) (fun _ _ _ h => by cases h.1) (Or.inl ⟨by kernel_rfl, fun X hX => ?_⟩) (lt.out _ okx1.out) ?_
      · go_simp
      refine wpAnyHI_two (i := 3) (j := 7) (fun _ => trivial) rfl rfl (by kernel_rfl) (fun K' hK' => ?_) (fun K' hK' => ?_)
      · skip
        rw [if_pos (by kernel_rfl)]
        go_simp
        refine ⟨trivial, (callsIn_wide.2 (clock_Sync.calls 9 100000 _ 1 ([⟨100, ⟨50, 60⟩⟩] : List S58) 111 70 80 100000 ([⟨100, ⟨50, 60⟩⟩, ⟨111, ⟨70, 73⟩⟩] : List S58) 0 _ (San14.row_ (i := 4) okx1.out rfl) (by simp) (by kernel_rfl))).mono ?_⟩
        rintro e X2 ⟨v, rfl, hQ, hb⟩
        dsimp only
        have okx2 := Aside0.mk (okx1.out.step hb)
        have hs2 : X1.heap.size ≤ X2.heap.size := hb.size
        obtain ⟨A, c, rfl, hlc⟩ := Kd.Q_slice hQ
        have HQ2 := Aside0.mk hQ
        clear hQ
        refine hK' _ _ (lt.out _ okx2.out) ?_
        clear hK' K' hb
        refine wpAnyHI_take (i := 4) (v := .tuple #[.agg #[.int .i64 100000, .slice A 2 c], .int .i64 0]) (fun _ => trivial) rfl (by kernel_rfl) (fun _ _ _ h => by cases h.1) (Or.inl ⟨by kernel_rfl, fun X hX => ?_⟩) (lt.out _ okx2.out) ?_
        · go_simp
        refine wpAnyHI_take (i := 5) (v := .agg #[.int .i64 100000, .slice A 2 c]) (fun _ => trivial) rfl (by kernel_rfl) (fun _ _ _ h => by cases h.1) (Or.inl ⟨by kernel_rfl, fun X hX => ?_⟩) (lt.out _ okx2.out) ?_
        · go_simp
        refine wpAnyHI_take (i := 6) (v := .int .i64 0) (fun _ => trivial) rfl (by kernel_rfl) (fun _ _ _ h => by cases h.1) (Or.inl ⟨by kernel_rfl, fun X hX => ?_⟩) (lt.out _ okx2.out) ?_
        · go_simp
        refine wpAnyHI_one (i := 7) (fun _ => trivial) rfl (by kernel_rfl) (fun K' hK' => ?_)
        rw [if_pos (by kernel_rfl)]
        go_simp
        have okx3 := Aside0.mk (okx2.out.step (below_alloc (Below.refl _ _) (Obj.cells #[.int .i64 0, .slice none 0 0] 54 (0, 0))))
        have zg3 : Aside0 ((X2.alloc (Obj.cells #[.int .i64 0, .slice none 0 0] 54 (0, 0))).heap[X2.heap.size]? = some (Obj.cells #[.int .i64 0, .slice none 0 0] 54 (0, 0))) := ⟨blk_new X2 (Obj.cells #[.int .i64 0, .slice none 0 0] 54 (0, 0))⟩
        have hsa3 : (X2.alloc (Obj.cells #[.int .i64 0, .slice none 0 0] 54 (0, 0))).heap.size = X2.heap.size + 1 := World.size_alloc _ _
        have HQ3 := Aside0.mk (Kd.Q_alloc HQ2.out (Obj.cells #[.int .i64 0, .slice none 0 0] 54 (0, 0)))
        refine hK' _ _ (lt.out _ okx3.out) ?_
        clear hK' K'
        have hz0 : (X2.alloc (Obj.cells #[.int .i64 0, .slice none 0 0] 54 (0, 0))).cell? ⟨X2.heap.size, 0, none⟩ = some (.int .i64 0) := (blk_cell zg3.out 0).trans rfl
        have hz1 : (X2.alloc (Obj.cells #[.int .i64 0, .slice none 0 0] 54 (0, 0))).cell? ⟨X2.heap.size, 1, none⟩ = some (.slice none 0 0) := (blk_cell zg3.out 1).trans rfl
        have hf0 : (X2.alloc (Obj.cells #[.int .i64 0, .slice none 0 0] 54 (0, 0))).frozen? ⟨X2.heap.size, 0, none⟩ = false := blk_frozen zg3.out 0
        have hf1 : (X2.alloc (Obj.cells #[.int .i64 0, .slice none 0 0] 54 (0, 0))).frozen? ⟨X2.heap.size, 1, none⟩ = false := blk_frozen zg3.out 1
        have okz := Aside0.mk (okx2.out.step (below_alloc (Below.refl _ _) (Obj.cells #[.int .i64 100000, .slice A 2 c] 54 (0, 0))))
        refine wpAnyHI_one (i := 8) (fun _ => trivial) rfl (by kernel_rfl) (fun K' hK' => ?_)
        rw [if_pos (by kernel_rfl)]
        go_simp
        refine hK' _ _ (lt.out _ okz.out) ?_
        clear hK' K'
        refine wpAnyHI_take (i := 9) (v := .int .i64 0) (fun _ => trivial) rfl (by kernel_rfl) (fun _ _ _ h => by cases h.1) (Or.inl ⟨by kernel_rfl, fun X hX => ?_⟩) (lt.out _ okz.out) ?_
        · go_simp
        refine wpAnyHI_done (by kernel_rfl) ?_ _
        exact ⟨rfl, X2.heap.size, A, c, (by kernel_rfl), (okx2.out.add (Obj.cells #[.int .i64 100000, .slice A 2 c] 54 (0, 0))), hlc, (Kd.Q_reads' (Kd.Q_alloc HQ2.out (Obj.cells #[.int .i64 100000, .slice A 2 c] 54 (0, 0)))).2.2⟩
      · skip
        rw [if_pos (by kernel_rfl)]
        go_simp
        have okx4 := Aside0.mk (okx1.out.step (below_alloc (Below.refl _ _) (Obj.cells #[.int .i64 0, .slice none 0 0] 54 (0, 0))))
        have zg4 : Aside0 ((X1.alloc (Obj.cells #[.int .i64 0, .slice none 0 0] 54 (0, 0))).heap[X1.heap.size]? = some (Obj.cells #[.int .i64 0, .slice none 0 0] 54 (0, 0))) := ⟨blk_new X1 (Obj.cells #[.int .i64 0, .slice none 0 0] 54 (0, 0))⟩
        have hsa4 : (X1.alloc (Obj.cells #[.int .i64 0, .slice none 0 0] 54 (0, 0))).heap.size = X1.heap.size + 1 := World.size_alloc _ _
        refine hK' _ _ (lt.out _ okx4.out) ?_
        clear hK' K'
        refine wpAnyHI_one (i := 3) (fun _ => trivial) rfl (by kernel_rfl) (fun K' hK' => ?_)
        rw [if_pos (by kernel_rfl)]
        go_simp
        refine ⟨trivial, (callsIn_wide.2 (clock_Sync.calls 9 100000 _ 1 ([⟨100, ⟨50, 60⟩⟩] : List S58) 111 70 80 100000 ([⟨100, ⟨50, 60⟩⟩, ⟨111, ⟨70, 73⟩⟩] : List S58) 0 _ (San14.row_ (i := 4) okx4.out rfl) (by simp) (by kernel_rfl))).mono ?_⟩
        rintro e X5 ⟨v, rfl, hQ, hb⟩
        dsimp only
        have okx5 := Aside0.mk (okx4.out.step hb)
        have zg5 := Aside0.mk (blk_below zg4.out hb)
        have hs5 : (X1.alloc (Obj.cells #[.int .i64 0, .slice none 0 0] 54 (0, 0))).heap.size ≤ X5.heap.size := hb.size
        obtain ⟨A, c, rfl, hlc⟩ := Kd.Q_slice hQ
        have HQ5 := Aside0.mk hQ
        clear hQ
        refine hK' _ _ (lt.out _ okx5.out) ?_
        clear hK' K' hb
        refine wpAnyHI_take (i := 4) (v := .tuple #[.agg #[.int .i64 100000, .slice A 2 c], .int .i64 0]) (fun _ => trivial) rfl (by kernel_rfl) (fun _ _ _ h => by cases h.1) (Or.inl ⟨by kernel_rfl, fun X hX => ?_⟩) (lt.out _ okx5.out) ?_
        · go_simp
        refine wpAnyHI_take (i := 5) (v := .agg #[.int .i64 100000, .slice A 2 c]) (fun _ => trivial) rfl (by kernel_rfl) (fun _ _ _ h => by cases h.1) (Or.inl ⟨by kernel_rfl, fun X hX => ?_⟩) (lt.out _ okx5.out) ?_
        · go_simp
        refine wpAnyHI_take (i := 6) (v := .int .i64 0) (fun _ => trivial) rfl (by kernel_rfl) (fun _ _ _ h => by cases h.1) (Or.inl ⟨by kernel_rfl, fun X hX => ?_⟩) (lt.out _ okx5.out) ?_
        · go_simp
        have hz0 : X5.cell? ⟨X1.heap.size, 0, none⟩ = some (.int .i64 0) := (blk_cell zg5.out 0).trans rfl
        have hz1 : X5.cell? ⟨X1.heap.size, 1, none⟩ = some (.slice none 0 0) := (blk_cell zg5.out 1).trans rfl
        have hf0 : X5.frozen? ⟨X1.heap.size, 0, none⟩ = false := blk_frozen zg5.out 0
        have hf1 : X5.frozen? ⟨X1.heap.size, 1, none⟩ = false := blk_frozen zg5.out 1
        have hp0 := blk_put (cs := #[.int .i64 0, .slice none 0 0]) zg5.out 0 (.int .i64 100000) rfl
        have hp1 := blk_put (cs := #[.int .i64 100000, .slice none 0 0]) hp0 1 (.slice A 2 c) rfl
        have okz := Aside0.mk (okr.out.far (okr.out.far okx5.out (show wr6.heap.size ≤ X1.heap.size from by omega) 0 (.int .i64 100000)) (show wr6.heap.size ≤ X1.heap.size from by omega) 1 (.slice A 2 c))
        refine wpAnyHI_one (i := 8) (fun _ => trivial) rfl (by kernel_rfl) (fun K' hK' => ?_)
        rw [if_pos (by kernel_rfl)]
        go_simp
        refine hK' _ _ (lt.out _ okz.out) ?_
        clear hK' K'
        refine wpAnyHI_take (i := 9) (v := .int .i64 0) (fun _ => trivial) rfl (by kernel_rfl) (fun _ _ _ h => by cases h.1) (Or.inl ⟨by kernel_rfl, fun X hX => ?_⟩) (lt.out _ okz.out) ?_
        · go_simp
        refine wpAnyHI_done (by kernel_rfl) ?_ _
        exact ⟨rfl, X1.heap.size, A, c, (by kernel_rfl), (okz.out.cons hp1), hlc, (Kd.Q_reads' (Kd.Q_set (Kd.Q_set HQ5.out zg5.out (by decide) 0 _) hp0 (by decide) 1 _)).2.2⟩
    · skip
      rw [if_pos (by kernel_rfl)]
      go_simp
      have okx6 := Aside0.mk (okd.out.step (below_alloc (Below.refl _ _) (Obj.cells #[.int .i64 0, .slice none 0 0] 54 (0, 0))))
      have zg6 : Aside0 ((wr6.drew.alloc (Obj.cells #[.int .i64 0, .slice none 0 0] 54 (0, 0))).heap[wr6.heap.size]? = some (Obj.cells #[.int .i64 0, .slice none 0 0] 54 (0, 0))) := ⟨blk_new wr6.drew (Obj.cells #[.int .i64 0, .slice none 0 0] 54 (0, 0))⟩
      have hsa6 : (wr6.drew.alloc (Obj.cells #[.int .i64 0, .slice none 0 0] 54 (0, 0))).heap.size = wr6.heap.size + 1 := World.size_alloc _ _
      refine hK' _ _ (lt.out _ okx6.out) ?_
      clear hK' K'
      refine wpAnyHI_one (i := 1) (fun _ => trivial) rfl (by kernel_rfl) (fun K' hK' => ?_)
      rw [if_pos (by kernel_rfl)]
      go_simp
      refine ⟨trivial, (callsIn_wide.2 (quietuslaw14_when.calls 70 80 70 80 _ rfl)).mono ?_⟩
      rintro e X7 ⟨rfl, hb⟩
      dsimp only
      have okx7 := Aside0.mk (okx6.out.step hb)
      have zg7 := Aside0.mk (blk_below zg6.out hb)
      have hs7 : (wr6.drew.alloc (Obj.cells #[.int .i64 0, .slice none 0 0] 54 (0, 0))).heap.size ≤ X7.heap.size := hb.size
      refine hK' _ _ (lt.out _ okx7.out) ?_
      clear hK' K' hb
      refine wpAnyHI_take (i := 2) (v := .agg #[.int .i64 111, .int .i64 70, .int .i64 80]) (fun _ => trivial) rfl (by kernel_rfl) (fun _ _ _ h => by cases h.1) (Or.inl ⟨by kernel_rfl, fun X hX => ?_⟩) (lt.out _ okx7.out) ?_
      · go_simp
      refine wpAnyHI_one (i := 3) (fun _ => trivial) rfl (by kernel_rfl) (fun K' hK' => ?_)
      rw [if_pos (by kernel_rfl)]
      go_simp
      refine ⟨trivial, (callsIn_wide.2 (clock_Sync.calls 9 100000 _ 1 ([⟨100, ⟨50, 60⟩⟩] : List S58) 111 70 80 100000 ([⟨100, ⟨50, 60⟩⟩, ⟨111, ⟨70, 73⟩⟩] : List S58) 0 _ (San14.row_ (i := 4) okx7.out rfl) (by simp) (by kernel_rfl))).mono ?_⟩
      rintro e X8 ⟨v, rfl, hQ, hb⟩
      dsimp only
      have okx8 := Aside0.mk (okx7.out.step hb)
      have zg8 := Aside0.mk (blk_below zg7.out hb)
      have hs8 : X7.heap.size ≤ X8.heap.size := hb.size
      obtain ⟨A, c, rfl, hlc⟩ := Kd.Q_slice hQ
      have HQ8 := Aside0.mk hQ
      clear hQ
      refine hK' _ _ (lt.out _ okx8.out) ?_
      clear hK' K' hb
      refine wpAnyHI_take (i := 4) (v := .tuple #[.agg #[.int .i64 100000, .slice A 2 c], .int .i64 0]) (fun _ => trivial) rfl (by kernel_rfl) (fun _ _ _ h => by cases h.1) (Or.inl ⟨by kernel_rfl, fun X hX => ?_⟩) (lt.out _ okx8.out) ?_
      · go_simp
      refine wpAnyHI_take (i := 5) (v := .agg #[.int .i64 100000, .slice A 2 c]) (fun _ => trivial) rfl (by kernel_rfl) (fun _ _ _ h => by cases h.1) (Or.inl ⟨by kernel_rfl, fun X hX => ?_⟩) (lt.out _ okx8.out) ?_
      · go_simp
      refine wpAnyHI_take (i := 6) (v := .int .i64 0) (fun _ => trivial) rfl (by kernel_rfl) (fun _ _ _ h => by cases h.1) (Or.inl ⟨by kernel_rfl, fun X hX => ?_⟩) (lt.out _ okx8.out) ?_
      · go_simp
      have hz0 : X8.cell? ⟨wr6.heap.size, 0, none⟩ = some (.int .i64 0) := (blk_cell zg8.out 0).trans rfl
      have hz1 : X8.cell? ⟨wr6.heap.size, 1, none⟩ = some (.slice none 0 0) := (blk_cell zg8.out 1).trans rfl
      have hf0 : X8.frozen? ⟨wr6.heap.size, 0, none⟩ = false := blk_frozen zg8.out 0
      have hf1 : X8.frozen? ⟨wr6.heap.size, 1, none⟩ = false := blk_frozen zg8.out 1
      have hp0 := blk_put (cs := #[.int .i64 0, .slice none 0 0]) zg8.out 0 (.int .i64 100000) rfl
      have hp1 := blk_put (cs := #[.int .i64 100000, .slice none 0 0]) hp0 1 (.slice A 2 c) rfl
      have okz := Aside0.mk (okr.out.far (okr.out.far okx8.out (show wr6.heap.size ≤ wr6.heap.size from by omega) 0 (.int .i64 100000)) (show wr6.heap.size ≤ wr6.heap.size from by omega) 1 (.slice A 2 c))
      refine wpAnyHI_one (i := 8) (fun _ => trivial) rfl (by kernel_rfl) (fun K' hK' => ?_)
      rw [if_pos (by kernel_rfl)]
      go_simp
      refine hK' _ _ (lt.out _ okz.out) ?_
      clear hK' K'
      refine wpAnyHI_take (i := 9) (v := .int .i64 0) (fun _ => trivial) rfl (by kernel_rfl) (fun _ _ _ h => by cases h.1) (Or.inl ⟨by kernel_rfl, fun X hX => ?_⟩) (lt.out _ okz.out) ?_
      · go_simp
      refine wpAnyHI_done (by kernel_rfl) ?_ _
      exact ⟨rfl, wr6.heap.size, A, c, (by kernel_rfl), (okz.out.cons hp1), hlc, (Kd.Q_reads' (Kd.Q_set (Kd.Q_set HQ8.out zg8.out (by decide) 0 _) hp0 (by decide) 1 _)).2.2⟩
  rintro a' w7 ⟨g7, A7, c7, rfl, okp, hc7, hC7⟩
  have ok7 := Aside0.mk okp.mark
  clear okp okr
  have HC7 := Aside0.mk hC7
  clear hC7
  go_simp
  have hgt6 : g7 < w7.heap.size := blk_lt (ok7.out.held 0 _ rfl)
  have hz6_0 : w7.cell? ⟨g7, 0, none⟩ = some (.int .i64 100000) := (blk_cell (ok7.out.held 0 _ rfl) 0).trans rfl
  have hz6_1 : w7.cell? ⟨g7, 1, none⟩ = some (.slice A7 2 c7) := (blk_cell (ok7.out.held 0 _ rfl) 1).trans rfl
  have hgt5 : w6.heap.size < w7.heap.size := blk_lt (ok7.out.held 1 _ rfl)
  have hz5_0 : w7.cell? ⟨w6.heap.size, 0, none⟩ = some (.int .i64 49) := (blk_cell (ok7.out.held 1 _ rfl) 0).trans rfl
  have hz5_1 : w7.cell? ⟨w6.heap.size, 1, none⟩ = some (.int .i64 61) := (blk_cell (ok7.out.held 1 _ rfl) 1).trans rfl
  have hgt4 : w5.heap.size < w7.heap.size := blk_lt (ok7.out.held 2 _ rfl)
  have hz4_0 : w7.cell? ⟨w5.heap.size, 0, none⟩ = some (.int .i64 37) := (blk_cell (ok7.out.held 2 _ rfl) 0).trans rfl
  have hz4_1 : w7.cell? ⟨w5.heap.size, 1, none⟩ = some (.int .i64 50) := (blk_cell (ok7.out.held 2 _ rfl) 1).trans rfl
  have hgt3 : w4.heap.size < w7.heap.size := blk_lt (ok7.out.held 3 _ rfl)
  have hz3_0 : w7.cell? ⟨w4.heap.size, 0, none⟩ = some (.int .i64 60) := (blk_cell (ok7.out.held 3 _ rfl) 0).trans rfl
  have hz3_1 : w7.cell? ⟨w4.heap.size, 1, none⟩ = some (.int .i64 73) := (blk_cell (ok7.out.held 3 _ rfl) 1).trans rfl
  have hgt2 : w1.heap.size + 1 < w7.heap.size := blk_lt (ok7.out.held 4 _ rfl)
  have hz2_0 : w7.cell? ⟨w1.heap.size + 1, 0, none⟩ = some (.int .i64 100000) := (blk_cell (ok7.out.held 4 _ rfl) 0).trans rfl
  have hz2_1 : w7.cell? ⟨w1.heap.size + 1, 1, none⟩ = some (.slice (some ⟨w1.heap.size, 0, none⟩) 1 1) := (blk_cell (ok7.out.held 4 _ rfl) 1).trans rfl
  have hgt1 : w1.heap.size < w7.heap.size := blk_lt (ok7.out.held 5 _ rfl)
  have hz1_0 : w7.cell? ⟨w1.heap.size, 0, none⟩ = some (.int .i64 100) := (blk_cell (ok7.out.held 5 _ rfl) 0).trans rfl
  have hz1_1 : w7.cell? ⟨w1.heap.size, 1, none⟩ = some (.int .i64 50) := (blk_cell (ok7.out.held 5 _ rfl) 1).trans rfl
  have hz1_2 : w7.cell? ⟨w1.heap.size, 2, none⟩ = some (.int .i64 60) := (blk_cell (ok7.out.held 5 _ rfl) 2).trans rfl
  go_wp2_with fail
  have okr := Aside0.mk (ok7.out)
  clear hgt6 hz6_0 hz6_1 hgt5 hz5_0 hz5_1 hgt4 hz4_0 hz4_1 hgt3 hz3_0 hz3_1 hgt2 hz2_0 hz2_1 hgt1 hz1_0 hz1_1 hz1_2
  refine (wpIn_wide (n := 3)).1 ?_
  refine San14.cut (fun a a' w' => ∃ (g : Nat) (A : Option Addr) (c : Nat), a' = (((((((((a.put (some 66) (.agg #[.int .i64 100000, .slice (some ⟨w1.heap.size, 0, none⟩) 1 1])).put (some 67) (.agg #[.int .i64 74, .int .i64 80])).put (some 68) (.agg #[.int .i64 111, .int .i64 74, .int .i64 80])).put (some 69) (.tuple #[.agg #[.int .i64 0, .slice A 0 c], .int .i64 24])).put (some 65) (.tuple #[.agg #[.int .i64 0, .slice A 0 c], .int .i64 24])).put (some 70) (.agg #[.int .i64 0, .slice A 0 c])).put (some 71) (.int .i64 24)).put (some 16) (.pointer (some ⟨g, 0, none⟩))).put (some 17) (.int .i64 24)) ∧ San14.Ok w w' ((g, Obj.cells #[.int .i64 0, .slice A 0 c] 54 (0, 0))  :: [(g7, Obj.cells #[.int .i64 100000, .slice A7 2 c7] 54 (0, 0)), (w6.heap.size, Obj.cells #[.int .i64 49, .int .i64 61] 56 (0, 0)), (w5.heap.size, Obj.cells #[.int .i64 37, .int .i64 50] 56 (0, 0)), (w4.heap.size, Obj.cells #[.int .i64 60, .int .i64 73] 56 (0, 0)), (w1.heap.size + 1, Obj.cells #[.int .i64 100000, .slice (some ⟨w1.heap.size, 0, none⟩) 1 1] 54 (0, 0)), (w1.heap.size, Obj.cells #[.int .i64 100, .int .i64 50, .int .i64 60] 58 (0, 0))]) [w7]) ?_ ?_
  · obtain ⟨S, hSdef⟩ : ∃ S : World → Prop, S = fun X => San14.Ok w X [(g7, Obj.cells #[.int .i64 100000, .slice A7 2 c7] 54 (0, 0)), (w6.heap.size, Obj.cells #[.int .i64 49, .int .i64 61] 56 (0, 0)), (w5.heap.size, Obj.cells #[.int .i64 37, .int .i64 50] 56 (0, 0)), (w4.heap.size, Obj.cells #[.int .i64 60, .int .i64 73] 56 (0, 0)), (w1.heap.size + 1, Obj.cells #[.int .i64 100000, .slice (some ⟨w1.heap.size, 0, none⟩) 1 1] 54 (0, 0)), (w1.heap.size, Obj.cells #[.int .i64 100, .int .i64 50, .int .i64 60] 58 (0, 0))] [w7] := ⟨_, rfl⟩
    have ls : Aside0 (∀ X, S X → San14.Ok w X [(g7, Obj.cells #[.int .i64 100000, .slice A7 2 c7] 54 (0, 0)), (w6.heap.size, Obj.cells #[.int .i64 49, .int .i64 61] 56 (0, 0)), (w5.heap.size, Obj.cells #[.int .i64 37, .int .i64 50] 56 (0, 0)), (w4.heap.size, Obj.cells #[.int .i64 60, .int .i64 73] 56 (0, 0)), (w1.heap.size + 1, Obj.cells #[.int .i64 100000, .slice (some ⟨w1.heap.size, 0, none⟩) 1 1] 54 (0, 0)), (w1.heap.size, Obj.cells #[.int .i64 100, .int .i64 50, .int .i64 60] 58 (0, 0))] [w7]) := ⟨fun X h => by rw [hSdef] at h; exact h⟩
    have lt : Aside0 (∀ X, San14.Ok w X [(g7, Obj.cells #[.int .i64 100000, .slice A7 2 c7] 54 (0, 0)), (w6.heap.size, Obj.cells #[.int .i64 49, .int .i64 61] 56 (0, 0)), (w5.heap.size, Obj.cells #[.int .i64 37, .int .i64 50] 56 (0, 0)), (w4.heap.size, Obj.cells #[.int .i64 60, .int .i64 73] 56 (0, 0)), (w1.heap.size + 1, Obj.cells #[.int .i64 100000, .slice (some ⟨w1.heap.size, 0, none⟩) 1 1] 54 (0, 0)), (w1.heap.size, Obj.cells #[.int .i64 100, .int .i64 50, .int .i64 60] 58 (0, 0))] [w7] → S X) := ⟨fun X h => by rw [hSdef]; exact h⟩
    have hmix : Try.prog.follows .mixedOrders = true := by kernel_rfl
    have hS0 : Aside0 (S w7.drew) := ⟨lt.out _ (okr.out.step (below_drew (Below.refl _ _)))⟩
    clear hSdef
    refine wpIn_region_held S 10 hmix ?_
    refine wpAnyHI_take (i := 0) (v := .agg #[.int .i64 100000, .slice (some ⟨w1.heap.size, 0, none⟩) 1 1]) (fun _ => trivial) rfl (by kernel_rfl) (fun _ _ _ h => by cases h.1) (Or.inl ⟨by kernel_rfl, fun X hX => ?_⟩) (hS0.out) ?_
    · have y0 : X.cell? ⟨w1.heap.size + 1, 0, none⟩ = some (.int .i64 100000) := (blk_cell ((ls.out X hX).held 4 _ rfl) 0).trans rfl; have y1 : X.cell? ⟨w1.heap.size + 1, 1, none⟩ = some (.slice (some ⟨w1.heap.size, 0, none⟩) 1 1) := (blk_cell ((ls.out X hX).held 4 _ rfl) 1).trans rfl; go_simp
    have okd := Aside0.mk (ls.out _ hS0.out)
    refine wpAnyHI_two (i := 1) (j := 7) (fun _ => trivial) rfl rfl (by kernel_rfl) (fun K' hK' => ?_) (fun K' hK' => ?_)
    · skip
      rw [if_pos (by kernel_rfl)]
      go_simp
      refine ⟨trivial, (callsIn_wide.2 (quietuslaw14_when.calls 74 80 74 80 _ rfl)).mono ?_⟩
      rintro e X1 ⟨rfl, hb⟩
      dsimp only
      have okx1 := Aside0.mk (okd.out.step hb)
      have hs1 : w7.heap.size ≤ X1.heap.size := hb.size
      refine hK' _ _ (lt.out _ okx1.out) ?_
      clear hK' K' hb
      refine wpAnyHI_take (i := 2) (v := .agg #[.int .i64 111, .int .i64 74, .int .i64 80]) (fun _ => trivial) rfl (by kernel_rfl) (fun _ _ _ h => by cases h.1) (Or.inl ⟨by kernel_rfl, fun X hX => ?_⟩) (lt.out _ okx1.out) ?_
      · go_simp
      refine wpAnyHI_two (i := 3) (j := 7) (fun _ => trivial) rfl rfl (by kernel_rfl) (fun K' hK' => ?_) (fun K' hK' => ?_)
      · skip
        rw [if_pos (by kernel_rfl)]
        go_simp
        refine ⟨trivial, (callsIn_wide.2 (clock_Sync.calls 9 100000 _ 1 ([⟨100, ⟨50, 60⟩⟩] : List S58) 111 74 80 0 ([] : List S58) 24 _ (San14.row_ (i := 5) okx1.out rfl) (by simp) (by kernel_rfl))).mono ?_⟩
        rintro e X2 ⟨v, rfl, hQ, hb⟩
        dsimp only
        have okx2 := Aside0.mk (okx1.out.step hb)
        have hs2 : X1.heap.size ≤ X2.heap.size := hb.size
        obtain ⟨A, c, rfl, hlc⟩ := Kd.Q_slice hQ
        have HQ2 := Aside0.mk hQ
        clear hQ
        refine hK' _ _ (lt.out _ okx2.out) ?_
        clear hK' K' hb
        refine wpAnyHI_take (i := 4) (v := .tuple #[.agg #[.int .i64 0, .slice A 0 c], .int .i64 24]) (fun _ => trivial) rfl (by kernel_rfl) (fun _ _ _ h => by cases h.1) (Or.inl ⟨by kernel_rfl, fun X hX => ?_⟩) (lt.out _ okx2.out) ?_
        · go_simp
        refine wpAnyHI_take (i := 5) (v := .agg #[.int .i64 0, .slice A 0 c]) (fun _ => trivial) rfl (by kernel_rfl) (fun _ _ _ h => by cases h.1) (Or.inl ⟨by kernel_rfl, fun X hX => ?_⟩) (lt.out _ okx2.out) ?_
        · go_simp
        refine wpAnyHI_take (i := 6) (v := .int .i64 24) (fun _ => trivial) rfl (by kernel_rfl) (fun _ _ _ h => by cases h.1) (Or.inl ⟨by kernel_rfl, fun X hX => ?_⟩) (lt.out _ okx2.out) ?_
        · go_simp
        refine wpAnyHI_one (i := 7) (fun _ => trivial) rfl (by kernel_rfl) (fun K' hK' => ?_)
        rw [if_pos (by kernel_rfl)]
        go_simp
        have okx3 := Aside0.mk (okx2.out.step (below_alloc (Below.refl _ _) (Obj.cells #[.int .i64 0, .slice none 0 0] 54 (0, 0))))
        have zg3 : Aside0 ((X2.alloc (Obj.cells #[.int .i64 0, .slice none 0 0] 54 (0, 0))).heap[X2.heap.size]? = some (Obj.cells #[.int .i64 0, .slice none 0 0] 54 (0, 0))) := ⟨blk_new X2 (Obj.cells #[.int .i64 0, .slice none 0 0] 54 (0, 0))⟩
        have hsa3 : (X2.alloc (Obj.cells #[.int .i64 0, .slice none 0 0] 54 (0, 0))).heap.size = X2.heap.size + 1 := World.size_alloc _ _
        have HQ3 := Aside0.mk (Kd.Q_alloc HQ2.out (Obj.cells #[.int .i64 0, .slice none 0 0] 54 (0, 0)))
        refine hK' _ _ (lt.out _ okx3.out) ?_
        clear hK' K'
        have hz0 : (X2.alloc (Obj.cells #[.int .i64 0, .slice none 0 0] 54 (0, 0))).cell? ⟨X2.heap.size, 0, none⟩ = some (.int .i64 0) := (blk_cell zg3.out 0).trans rfl
        have hz1 : (X2.alloc (Obj.cells #[.int .i64 0, .slice none 0 0] 54 (0, 0))).cell? ⟨X2.heap.size, 1, none⟩ = some (.slice none 0 0) := (blk_cell zg3.out 1).trans rfl
        have hf0 : (X2.alloc (Obj.cells #[.int .i64 0, .slice none 0 0] 54 (0, 0))).frozen? ⟨X2.heap.size, 0, none⟩ = false := blk_frozen zg3.out 0
        have hf1 : (X2.alloc (Obj.cells #[.int .i64 0, .slice none 0 0] 54 (0, 0))).frozen? ⟨X2.heap.size, 1, none⟩ = false := blk_frozen zg3.out 1
        have okz := Aside0.mk (okx2.out.step (below_alloc (Below.refl _ _) (Obj.cells #[.int .i64 0, .slice A 0 c] 54 (0, 0))))
        refine wpAnyHI_one (i := 8) (fun _ => trivial) rfl (by kernel_rfl) (fun K' hK' => ?_)
        rw [if_pos (by kernel_rfl)]
        go_simp
        refine hK' _ _ (lt.out _ okz.out) ?_
        clear hK' K'
        refine wpAnyHI_take (i := 9) (v := .int .i64 24) (fun _ => trivial) rfl (by kernel_rfl) (fun _ _ _ h => by cases h.1) (Or.inl ⟨by kernel_rfl, fun X hX => ?_⟩) (lt.out _ okz.out) ?_
        · go_simp
        refine wpAnyHI_done (by kernel_rfl) ?_ _
        exact ⟨rfl, X2.heap.size, A, c, (by kernel_rfl), (okx2.out.add (Obj.cells #[.int .i64 0, .slice A 0 c] 54 (0, 0)))⟩
      · skip
        rw [if_pos (by kernel_rfl)]
        go_simp
        have okx4 := Aside0.mk (okx1.out.step (below_alloc (Below.refl _ _) (Obj.cells #[.int .i64 0, .slice none 0 0] 54 (0, 0))))
        have zg4 : Aside0 ((X1.alloc (Obj.cells #[.int .i64 0, .slice none 0 0] 54 (0, 0))).heap[X1.heap.size]? = some (Obj.cells #[.int .i64 0, .slice none 0 0] 54 (0, 0))) := ⟨blk_new X1 (Obj.cells #[.int .i64 0, .slice none 0 0] 54 (0, 0))⟩
        have hsa4 : (X1.alloc (Obj.cells #[.int .i64 0, .slice none 0 0] 54 (0, 0))).heap.size = X1.heap.size + 1 := World.size_alloc _ _
        refine hK' _ _ (lt.out _ okx4.out) ?_
        clear hK' K'
        refine wpAnyHI_one (i := 3) (fun _ => trivial) rfl (by kernel_rfl) (fun K' hK' => ?_)
        rw [if_pos (by kernel_rfl)]
        go_simp
        refine ⟨trivial, (callsIn_wide.2 (clock_Sync.calls 9 100000 _ 1 ([⟨100, ⟨50, 60⟩⟩] : List S58) 111 74 80 0 ([] : List S58) 24 _ (San14.row_ (i := 5) okx4.out rfl) (by simp) (by kernel_rfl))).mono ?_⟩
        rintro e X5 ⟨v, rfl, hQ, hb⟩
        dsimp only
        have okx5 := Aside0.mk (okx4.out.step hb)
        have zg5 := Aside0.mk (blk_below zg4.out hb)
        have hs5 : (X1.alloc (Obj.cells #[.int .i64 0, .slice none 0 0] 54 (0, 0))).heap.size ≤ X5.heap.size := hb.size
        obtain ⟨A, c, rfl, hlc⟩ := Kd.Q_slice hQ
        have HQ5 := Aside0.mk hQ
        clear hQ
        refine hK' _ _ (lt.out _ okx5.out) ?_
        clear hK' K' hb
        refine wpAnyHI_take (i := 4) (v := .tuple #[.agg #[.int .i64 0, .slice A 0 c], .int .i64 24]) (fun _ => trivial) rfl (by kernel_rfl) (fun _ _ _ h => by cases h.1) (Or.inl ⟨by kernel_rfl, fun X hX => ?_⟩) (lt.out _ okx5.out) ?_
        · go_simp
        refine wpAnyHI_take (i := 5) (v := .agg #[.int .i64 0, .slice A 0 c]) (fun _ => trivial) rfl (by kernel_rfl) (fun _ _ _ h => by cases h.1) (Or.inl ⟨by kernel_rfl, fun X hX => ?_⟩) (lt.out _ okx5.out) ?_
        · go_simp
        refine wpAnyHI_take (i := 6) (v := .int .i64 24) (fun _ => trivial) rfl (by kernel_rfl) (fun _ _ _ h => by cases h.1) (Or.inl ⟨by kernel_rfl, fun X hX => ?_⟩) (lt.out _ okx5.out) ?_
        · go_simp
        have hz0 : X5.cell? ⟨X1.heap.size, 0, none⟩ = some (.int .i64 0) := (blk_cell zg5.out 0).trans rfl
        have hz1 : X5.cell? ⟨X1.heap.size, 1, none⟩ = some (.slice none 0 0) := (blk_cell zg5.out 1).trans rfl
        have hf0 : X5.frozen? ⟨X1.heap.size, 0, none⟩ = false := blk_frozen zg5.out 0
        have hf1 : X5.frozen? ⟨X1.heap.size, 1, none⟩ = false := blk_frozen zg5.out 1
        have hp0 := blk_put (cs := #[.int .i64 0, .slice none 0 0]) zg5.out 0 (.int .i64 0) rfl
        have hp1 := blk_put (cs := #[.int .i64 0, .slice none 0 0]) hp0 1 (.slice A 0 c) rfl
        have okz := Aside0.mk (okr.out.far (okr.out.far okx5.out (show w7.heap.size ≤ X1.heap.size from by omega) 0 (.int .i64 0)) (show w7.heap.size ≤ X1.heap.size from by omega) 1 (.slice A 0 c))
        refine wpAnyHI_one (i := 8) (fun _ => trivial) rfl (by kernel_rfl) (fun K' hK' => ?_)
        rw [if_pos (by kernel_rfl)]
        go_simp
        refine hK' _ _ (lt.out _ okz.out) ?_
        clear hK' K'
        refine wpAnyHI_take (i := 9) (v := .int .i64 24) (fun _ => trivial) rfl (by kernel_rfl) (fun _ _ _ h => by cases h.1) (Or.inl ⟨by kernel_rfl, fun X hX => ?_⟩) (lt.out _ okz.out) ?_
        · go_simp
        refine wpAnyHI_done (by kernel_rfl) ?_ _
        exact ⟨rfl, X1.heap.size, A, c, (by kernel_rfl), (okz.out.cons hp1)⟩
    · skip
      rw [if_pos (by kernel_rfl)]
      go_simp
      have okx6 := Aside0.mk (okd.out.step (below_alloc (Below.refl _ _) (Obj.cells #[.int .i64 0, .slice none 0 0] 54 (0, 0))))
      have zg6 : Aside0 ((w7.drew.alloc (Obj.cells #[.int .i64 0, .slice none 0 0] 54 (0, 0))).heap[w7.heap.size]? = some (Obj.cells #[.int .i64 0, .slice none 0 0] 54 (0, 0))) := ⟨blk_new w7.drew (Obj.cells #[.int .i64 0, .slice none 0 0] 54 (0, 0))⟩
      have hsa6 : (w7.drew.alloc (Obj.cells #[.int .i64 0, .slice none 0 0] 54 (0, 0))).heap.size = w7.heap.size + 1 := World.size_alloc _ _
      refine hK' _ _ (lt.out _ okx6.out) ?_
      clear hK' K'
      refine wpAnyHI_one (i := 1) (fun _ => trivial) rfl (by kernel_rfl) (fun K' hK' => ?_)
      rw [if_pos (by kernel_rfl)]
      go_simp
      refine ⟨trivial, (callsIn_wide.2 (quietuslaw14_when.calls 74 80 74 80 _ rfl)).mono ?_⟩
      rintro e X7 ⟨rfl, hb⟩
      dsimp only
      have okx7 := Aside0.mk (okx6.out.step hb)
      have zg7 := Aside0.mk (blk_below zg6.out hb)
      have hs7 : (w7.drew.alloc (Obj.cells #[.int .i64 0, .slice none 0 0] 54 (0, 0))).heap.size ≤ X7.heap.size := hb.size
      refine hK' _ _ (lt.out _ okx7.out) ?_
      clear hK' K' hb
      refine wpAnyHI_take (i := 2) (v := .agg #[.int .i64 111, .int .i64 74, .int .i64 80]) (fun _ => trivial) rfl (by kernel_rfl) (fun _ _ _ h => by cases h.1) (Or.inl ⟨by kernel_rfl, fun X hX => ?_⟩) (lt.out _ okx7.out) ?_
      · go_simp
      refine wpAnyHI_one (i := 3) (fun _ => trivial) rfl (by kernel_rfl) (fun K' hK' => ?_)
      rw [if_pos (by kernel_rfl)]
      go_simp
      refine ⟨trivial, (callsIn_wide.2 (clock_Sync.calls 9 100000 _ 1 ([⟨100, ⟨50, 60⟩⟩] : List S58) 111 74 80 0 ([] : List S58) 24 _ (San14.row_ (i := 5) okx7.out rfl) (by simp) (by kernel_rfl))).mono ?_⟩
      rintro e X8 ⟨v, rfl, hQ, hb⟩
      dsimp only
      have okx8 := Aside0.mk (okx7.out.step hb)
      have zg8 := Aside0.mk (blk_below zg7.out hb)
      have hs8 : X7.heap.size ≤ X8.heap.size := hb.size
      obtain ⟨A, c, rfl, hlc⟩ := Kd.Q_slice hQ
      have HQ8 := Aside0.mk hQ
      clear hQ
      refine hK' _ _ (lt.out _ okx8.out) ?_
      clear hK' K' hb
      refine wpAnyHI_take (i := 4) (v := .tuple #[.agg #[.int .i64 0, .slice A 0 c], .int .i64 24]) (fun _ => trivial) rfl (by kernel_rfl) (fun _ _ _ h => by cases h.1) (Or.inl ⟨by kernel_rfl, fun X hX => ?_⟩) (lt.out _ okx8.out) ?_
      · go_simp
      refine wpAnyHI_take (i := 5) (v := .agg #[.int .i64 0, .slice A 0 c]) (fun _ => trivial) rfl (by kernel_rfl) (fun _ _ _ h => by cases h.1) (Or.inl ⟨by kernel_rfl, fun X hX => ?_⟩) (lt.out _ okx8.out) ?_
      · go_simp
      refine wpAnyHI_take (i := 6) (v := .int .i64 24) (fun _ => trivial) rfl (by kernel_rfl) (fun _ _ _ h => by cases h.1) (Or.inl ⟨by kernel_rfl, fun X hX => ?_⟩) (lt.out _ okx8.out) ?_
      · go_simp
      have hz0 : X8.cell? ⟨w7.heap.size, 0, none⟩ = some (.int .i64 0) := (blk_cell zg8.out 0).trans rfl
      have hz1 : X8.cell? ⟨w7.heap.size, 1, none⟩ = some (.slice none 0 0) := (blk_cell zg8.out 1).trans rfl
      have hf0 : X8.frozen? ⟨w7.heap.size, 0, none⟩ = false := blk_frozen zg8.out 0
      have hf1 : X8.frozen? ⟨w7.heap.size, 1, none⟩ = false := blk_frozen zg8.out 1
      have hp0 := blk_put (cs := #[.int .i64 0, .slice none 0 0]) zg8.out 0 (.int .i64 0) rfl
      have hp1 := blk_put (cs := #[.int .i64 0, .slice none 0 0]) hp0 1 (.slice A 0 c) rfl
      have okz := Aside0.mk (okr.out.far (okr.out.far okx8.out (show w7.heap.size ≤ w7.heap.size from by omega) 0 (.int .i64 0)) (show w7.heap.size ≤ w7.heap.size from by omega) 1 (.slice A 0 c))
      refine wpAnyHI_one (i := 8) (fun _ => trivial) rfl (by kernel_rfl) (fun K' hK' => ?_)
      rw [if_pos (by kernel_rfl)]
      go_simp
      refine hK' _ _ (lt.out _ okz.out) ?_
      clear hK' K'
      refine wpAnyHI_take (i := 9) (v := .int .i64 24) (fun _ => trivial) rfl (by kernel_rfl) (fun _ _ _ h => by cases h.1) (Or.inl ⟨by kernel_rfl, fun X hX => ?_⟩) (lt.out _ okz.out) ?_
      · go_simp
      refine wpAnyHI_done (by kernel_rfl) ?_ _
      exact ⟨rfl, w7.heap.size, A, c, (by kernel_rfl), (okz.out.cons hp1)⟩
  rintro a' w8 ⟨g8, A8, c8, rfl, okp⟩
  have ok8 := Aside0.mk okp
  clear okp okr
  go_simp
  have hgt7 : g8 < w8.heap.size := blk_lt (ok8.out.held 0 _ rfl)
  have hz7_0 : w8.cell? ⟨g8, 0, none⟩ = some (.int .i64 0) := (blk_cell (ok8.out.held 0 _ rfl) 0).trans rfl
  have hz7_1 : w8.cell? ⟨g8, 1, none⟩ = some (.slice A8 0 c8) := (blk_cell (ok8.out.held 0 _ rfl) 1).trans rfl
  have hgt6 : g7 < w8.heap.size := blk_lt (ok8.out.held 1 _ rfl)
  have hz6_0 : w8.cell? ⟨g7, 0, none⟩ = some (.int .i64 100000) := (blk_cell (ok8.out.held 1 _ rfl) 0).trans rfl
  have hz6_1 : w8.cell? ⟨g7, 1, none⟩ = some (.slice A7 2 c7) := (blk_cell (ok8.out.held 1 _ rfl) 1).trans rfl
  have hgt5 : w6.heap.size < w8.heap.size := blk_lt (ok8.out.held 2 _ rfl)
  have hz5_0 : w8.cell? ⟨w6.heap.size, 0, none⟩ = some (.int .i64 49) := (blk_cell (ok8.out.held 2 _ rfl) 0).trans rfl
  have hz5_1 : w8.cell? ⟨w6.heap.size, 1, none⟩ = some (.int .i64 61) := (blk_cell (ok8.out.held 2 _ rfl) 1).trans rfl
  have hgt4 : w5.heap.size < w8.heap.size := blk_lt (ok8.out.held 3 _ rfl)
  have hz4_0 : w8.cell? ⟨w5.heap.size, 0, none⟩ = some (.int .i64 37) := (blk_cell (ok8.out.held 3 _ rfl) 0).trans rfl
  have hz4_1 : w8.cell? ⟨w5.heap.size, 1, none⟩ = some (.int .i64 50) := (blk_cell (ok8.out.held 3 _ rfl) 1).trans rfl
  have hgt3 : w4.heap.size < w8.heap.size := blk_lt (ok8.out.held 4 _ rfl)
  have hz3_0 : w8.cell? ⟨w4.heap.size, 0, none⟩ = some (.int .i64 60) := (blk_cell (ok8.out.held 4 _ rfl) 0).trans rfl
  have hz3_1 : w8.cell? ⟨w4.heap.size, 1, none⟩ = some (.int .i64 73) := (blk_cell (ok8.out.held 4 _ rfl) 1).trans rfl
  have hgt2 : w1.heap.size + 1 < w8.heap.size := blk_lt (ok8.out.held 5 _ rfl)
  have hz2_0 : w8.cell? ⟨w1.heap.size + 1, 0, none⟩ = some (.int .i64 100000) := (blk_cell (ok8.out.held 5 _ rfl) 0).trans rfl
  have hz2_1 : w8.cell? ⟨w1.heap.size + 1, 1, none⟩ = some (.slice (some ⟨w1.heap.size, 0, none⟩) 1 1) := (blk_cell (ok8.out.held 5 _ rfl) 1).trans rfl
  have hgt1 : w1.heap.size < w8.heap.size := blk_lt (ok8.out.held 6 _ rfl)
  have hz1_0 : w8.cell? ⟨w1.heap.size, 0, none⟩ = some (.int .i64 100) := (blk_cell (ok8.out.held 6 _ rfl) 0).trans rfl
  have hz1_1 : w8.cell? ⟨w1.heap.size, 1, none⟩ = some (.int .i64 50) := (blk_cell (ok8.out.held 6 _ rfl) 1).trans rfl
  have hz1_2 : w8.cell? ⟨w1.heap.size, 2, none⟩ = some (.int .i64 60) := (blk_cell (ok8.out.held 6 _ rfl) 2).trans rfl
  go_wp2_with fail
  have okr := Aside0.mk (ok8.out)
  clear hgt7 hz7_0 hz7_1 hgt6 hz6_0 hz6_1 hgt5 hz5_0 hz5_1 hgt4 hz4_0 hz4_1 hgt3 hz3_0 hz3_1 hgt2 hz2_0 hz2_1 hgt1 hz1_0 hz1_1 hz1_2
  refine (wpIn_wide (n := 3)).1 ?_
  refine San14.cut (fun a a' w' => ∃ (g : Nat), a' = ((((((((a.put (some 73) (.agg #[.int .i64 100000, .slice (some ⟨w1.heap.size, 0, none⟩) 1 1])).put (some 74) (.agg #[.int .i64 55, .int .i64 57])).put (some 75) (.tuple #[.agg #[.int .i64 109, .int .i64 55, .int .i64 68], .int .i64 0])).put (some 72) (.tuple #[.agg #[.int .i64 109, .int .i64 55, .int .i64 68], .int .i64 0])).put (some 76) (.agg #[.int .i64 109, .int .i64 55, .int .i64 68])).put (some 77) (.int .i64 0)).put (some 18) (.pointer (some ⟨g, 0, none⟩))).put (some 19) (.int .i64 0)) ∧ San14.Ok w w' ((g, Obj.cells #[.int .i64 109, .int .i64 55, .int .i64 68] 58 (0, 0))  :: [(g8, Obj.cells #[.int .i64 0, .slice A8 0 c8] 54 (0, 0)), (g7, Obj.cells #[.int .i64 100000, .slice A7 2 c7] 54 (0, 0)), (w6.heap.size, Obj.cells #[.int .i64 49, .int .i64 61] 56 (0, 0)), (w5.heap.size, Obj.cells #[.int .i64 37, .int .i64 50] 56 (0, 0)), (w4.heap.size, Obj.cells #[.int .i64 60, .int .i64 73] 56 (0, 0)), (w1.heap.size + 1, Obj.cells #[.int .i64 100000, .slice (some ⟨w1.heap.size, 0, none⟩) 1 1] 54 (0, 0)), (w1.heap.size, Obj.cells #[.int .i64 100, .int .i64 50, .int .i64 60] 58 (0, 0))]) [w7]) ?_ ?_
  · obtain ⟨S, hSdef⟩ : ∃ S : World → Prop, S = fun X => San14.Ok w X [(g8, Obj.cells #[.int .i64 0, .slice A8 0 c8] 54 (0, 0)), (g7, Obj.cells #[.int .i64 100000, .slice A7 2 c7] 54 (0, 0)), (w6.heap.size, Obj.cells #[.int .i64 49, .int .i64 61] 56 (0, 0)), (w5.heap.size, Obj.cells #[.int .i64 37, .int .i64 50] 56 (0, 0)), (w4.heap.size, Obj.cells #[.int .i64 60, .int .i64 73] 56 (0, 0)), (w1.heap.size + 1, Obj.cells #[.int .i64 100000, .slice (some ⟨w1.heap.size, 0, none⟩) 1 1] 54 (0, 0)), (w1.heap.size, Obj.cells #[.int .i64 100, .int .i64 50, .int .i64 60] 58 (0, 0))] [w7] := ⟨_, rfl⟩
    have ls : Aside0 (∀ X, S X → San14.Ok w X [(g8, Obj.cells #[.int .i64 0, .slice A8 0 c8] 54 (0, 0)), (g7, Obj.cells #[.int .i64 100000, .slice A7 2 c7] 54 (0, 0)), (w6.heap.size, Obj.cells #[.int .i64 49, .int .i64 61] 56 (0, 0)), (w5.heap.size, Obj.cells #[.int .i64 37, .int .i64 50] 56 (0, 0)), (w4.heap.size, Obj.cells #[.int .i64 60, .int .i64 73] 56 (0, 0)), (w1.heap.size + 1, Obj.cells #[.int .i64 100000, .slice (some ⟨w1.heap.size, 0, none⟩) 1 1] 54 (0, 0)), (w1.heap.size, Obj.cells #[.int .i64 100, .int .i64 50, .int .i64 60] 58 (0, 0))] [w7]) := ⟨fun X h => by rw [hSdef] at h; exact h⟩
    have lt : Aside0 (∀ X, San14.Ok w X [(g8, Obj.cells #[.int .i64 0, .slice A8 0 c8] 54 (0, 0)), (g7, Obj.cells #[.int .i64 100000, .slice A7 2 c7] 54 (0, 0)), (w6.heap.size, Obj.cells #[.int .i64 49, .int .i64 61] 56 (0, 0)), (w5.heap.size, Obj.cells #[.int .i64 37, .int .i64 50] 56 (0, 0)), (w4.heap.size, Obj.cells #[.int .i64 60, .int .i64 73] 56 (0, 0)), (w1.heap.size + 1, Obj.cells #[.int .i64 100000, .slice (some ⟨w1.heap.size, 0, none⟩) 1 1] 54 (0, 0)), (w1.heap.size, Obj.cells #[.int .i64 100, .int .i64 50, .int .i64 60] 58 (0, 0))] [w7] → S X) := ⟨fun X h => by rw [hSdef]; exact h⟩
    have hmix : Try.prog.follows .mixedOrders = true := by kernel_rfl
    have hS0 : Aside0 (S w8.drew) := ⟨lt.out _ (okr.out.step (below_drew (Below.refl _ _)))⟩
    clear hSdef
    refine wpIn_region_held S 9 hmix ?_
    refine wpAnyHI_take (i := 0) (v := .agg #[.int .i64 100000, .slice (some ⟨w1.heap.size, 0, none⟩) 1 1]) (fun _ => trivial) rfl (by kernel_rfl) (fun _ _ _ h => by cases h.1) (Or.inl ⟨by kernel_rfl, fun X hX => ?_⟩) (hS0.out) ?_
    · have y0 : X.cell? ⟨w1.heap.size + 1, 0, none⟩ = some (.int .i64 100000) := (blk_cell ((ls.out X hX).held 5 _ rfl) 0).trans rfl; have y1 : X.cell? ⟨w1.heap.size + 1, 1, none⟩ = some (.slice (some ⟨w1.heap.size, 0, none⟩) 1 1) := (blk_cell ((ls.out X hX).held 5 _ rfl) 1).trans rfl; go_simp
    have okd := Aside0.mk (ls.out _ hS0.out)
    refine wpAnyHI_two (i := 1) (j := 6) (fun _ => trivial) rfl rfl (by kernel_rfl) (fun K' hK' => ?_) (fun K' hK' => ?_)
    · skip
      rw [if_pos (by kernel_rfl)]
      go_simp
      refine ⟨trivial, (callsIn_wide.2 (quietuslaw14_when.calls 55 57 55 57 _ rfl)).mono ?_⟩
      rintro e X1 ⟨rfl, hb⟩
      dsimp only
      have okx1 := Aside0.mk (okd.out.step hb)
      have hs1 : w8.heap.size ≤ X1.heap.size := hb.size
      refine hK' _ _ (lt.out _ okx1.out) ?_
      clear hK' K' hb
      refine wpAnyHI_two (i := 2) (j := 6) (fun _ => trivial) rfl rfl (by kernel_rfl) (fun K' hK' => ?_) (fun K' hK' => ?_)
      · skip
        rw [if_pos (by kernel_rfl)]
        go_simp
        refine ⟨trivial, (callsIn_wide.2 (clock_Answer.calls 9 100000 _ 1 ([⟨100, ⟨50, 60⟩⟩] : List S58) 100 109 55 57 109 55 68 0 _ (San14.row_ (i := 6) okx1.out rfl) (by simp) (by kernel_rfl))).mono ?_⟩
        rintro e X2 ⟨rfl, hb⟩
        dsimp only
        have okx2 := Aside0.mk (okx1.out.step hb)
        have hs2 : X1.heap.size ≤ X2.heap.size := hb.size
        refine hK' _ _ (lt.out _ okx2.out) ?_
        clear hK' K' hb
        refine wpAnyHI_take (i := 3) (v := .tuple #[.agg #[.int .i64 109, .int .i64 55, .int .i64 68], .int .i64 0]) (fun _ => trivial) rfl (by kernel_rfl) (fun _ _ _ h => by cases h.1) (Or.inl ⟨by kernel_rfl, fun X hX => ?_⟩) (lt.out _ okx2.out) ?_
        · go_simp
        refine wpAnyHI_take (i := 4) (v := .agg #[.int .i64 109, .int .i64 55, .int .i64 68]) (fun _ => trivial) rfl (by kernel_rfl) (fun _ _ _ h => by cases h.1) (Or.inl ⟨by kernel_rfl, fun X hX => ?_⟩) (lt.out _ okx2.out) ?_
        · go_simp
        refine wpAnyHI_take (i := 5) (v := .int .i64 0) (fun _ => trivial) rfl (by kernel_rfl) (fun _ _ _ h => by cases h.1) (Or.inl ⟨by kernel_rfl, fun X hX => ?_⟩) (lt.out _ okx2.out) ?_
        · go_simp
        refine wpAnyHI_one (i := 6) (fun _ => trivial) rfl (by kernel_rfl) (fun K' hK' => ?_)
        rw [if_pos (by kernel_rfl)]
        go_simp
        have okx3 := Aside0.mk (okx2.out.step (below_alloc (Below.refl _ _) (Obj.cells #[.int .i64 0, .int .i64 0, .int .i64 0] 58 (0, 0))))
        have zg3 : Aside0 ((X2.alloc (Obj.cells #[.int .i64 0, .int .i64 0, .int .i64 0] 58 (0, 0))).heap[X2.heap.size]? = some (Obj.cells #[.int .i64 0, .int .i64 0, .int .i64 0] 58 (0, 0))) := ⟨blk_new X2 (Obj.cells #[.int .i64 0, .int .i64 0, .int .i64 0] 58 (0, 0))⟩
        have hsa3 : (X2.alloc (Obj.cells #[.int .i64 0, .int .i64 0, .int .i64 0] 58 (0, 0))).heap.size = X2.heap.size + 1 := World.size_alloc _ _
        refine hK' _ _ (lt.out _ okx3.out) ?_
        clear hK' K'
        have hz0 : (X2.alloc (Obj.cells #[.int .i64 0, .int .i64 0, .int .i64 0] 58 (0, 0))).cell? ⟨X2.heap.size, 0, none⟩ = some (.int .i64 0) := (blk_cell zg3.out 0).trans rfl
        have hz1 : (X2.alloc (Obj.cells #[.int .i64 0, .int .i64 0, .int .i64 0] 58 (0, 0))).cell? ⟨X2.heap.size, 1, none⟩ = some (.int .i64 0) := (blk_cell zg3.out 1).trans rfl
        have hz2 : (X2.alloc (Obj.cells #[.int .i64 0, .int .i64 0, .int .i64 0] 58 (0, 0))).cell? ⟨X2.heap.size, 2, none⟩ = some (.int .i64 0) := (blk_cell zg3.out 2).trans rfl
        have hf0 : (X2.alloc (Obj.cells #[.int .i64 0, .int .i64 0, .int .i64 0] 58 (0, 0))).frozen? ⟨X2.heap.size, 0, none⟩ = false := blk_frozen zg3.out 0
        have hf1 : (X2.alloc (Obj.cells #[.int .i64 0, .int .i64 0, .int .i64 0] 58 (0, 0))).frozen? ⟨X2.heap.size, 1, none⟩ = false := blk_frozen zg3.out 1
        have hf2 : (X2.alloc (Obj.cells #[.int .i64 0, .int .i64 0, .int .i64 0] 58 (0, 0))).frozen? ⟨X2.heap.size, 2, none⟩ = false := blk_frozen zg3.out 2
        have okz := Aside0.mk (okx2.out.step (below_alloc (Below.refl _ _) (Obj.cells #[.int .i64 109, .int .i64 55, .int .i64 68] 58 (0, 0))))
        refine wpAnyHI_one (i := 7) (fun _ => trivial) rfl (by kernel_rfl) (fun K' hK' => ?_)
        rw [if_pos (by kernel_rfl)]
        go_simp
        refine hK' _ _ (lt.out _ okz.out) ?_
        clear hK' K'
        refine wpAnyHI_take (i := 8) (v := .int .i64 0) (fun _ => trivial) rfl (by kernel_rfl) (fun _ _ _ h => by cases h.1) (Or.inl ⟨by kernel_rfl, fun X hX => ?_⟩) (lt.out _ okz.out) ?_
        · go_simp
        refine wpAnyHI_done (by kernel_rfl) ?_ _
        exact ⟨rfl, X2.heap.size, (by kernel_rfl), (okx2.out.add (Obj.cells #[.int .i64 109, .int .i64 55, .int .i64 68] 58 (0, 0)))⟩
      · skip
        rw [if_pos (by kernel_rfl)]
        go_simp
        have okx4 := Aside0.mk (okx1.out.step (below_alloc (Below.refl _ _) (Obj.cells #[.int .i64 0, .int .i64 0, .int .i64 0] 58 (0, 0))))
        have zg4 : Aside0 ((X1.alloc (Obj.cells #[.int .i64 0, .int .i64 0, .int .i64 0] 58 (0, 0))).heap[X1.heap.size]? = some (Obj.cells #[.int .i64 0, .int .i64 0, .int .i64 0] 58 (0, 0))) := ⟨blk_new X1 (Obj.cells #[.int .i64 0, .int .i64 0, .int .i64 0] 58 (0, 0))⟩
        have hsa4 : (X1.alloc (Obj.cells #[.int .i64 0, .int .i64 0, .int .i64 0] 58 (0, 0))).heap.size = X1.heap.size + 1 := World.size_alloc _ _
        refine hK' _ _ (lt.out _ okx4.out) ?_
        clear hK' K'
        refine wpAnyHI_one (i := 2) (fun _ => trivial) rfl (by kernel_rfl) (fun K' hK' => ?_)
        rw [if_pos (by kernel_rfl)]
        go_simp
        refine ⟨trivial, (callsIn_wide.2 (clock_Answer.calls 9 100000 _ 1 ([⟨100, ⟨50, 60⟩⟩] : List S58) 100 109 55 57 109 55 68 0 _ (San14.row_ (i := 6) okx4.out rfl) (by simp) (by kernel_rfl))).mono ?_⟩
        rintro e X5 ⟨rfl, hb⟩
        dsimp only
        have okx5 := Aside0.mk (okx4.out.step hb)
        have zg5 := Aside0.mk (blk_below zg4.out hb)
        have hs5 : (X1.alloc (Obj.cells #[.int .i64 0, .int .i64 0, .int .i64 0] 58 (0, 0))).heap.size ≤ X5.heap.size := hb.size
        refine hK' _ _ (lt.out _ okx5.out) ?_
        clear hK' K' hb
        refine wpAnyHI_take (i := 3) (v := .tuple #[.agg #[.int .i64 109, .int .i64 55, .int .i64 68], .int .i64 0]) (fun _ => trivial) rfl (by kernel_rfl) (fun _ _ _ h => by cases h.1) (Or.inl ⟨by kernel_rfl, fun X hX => ?_⟩) (lt.out _ okx5.out) ?_
        · go_simp
        refine wpAnyHI_take (i := 4) (v := .agg #[.int .i64 109, .int .i64 55, .int .i64 68]) (fun _ => trivial) rfl (by kernel_rfl) (fun _ _ _ h => by cases h.1) (Or.inl ⟨by kernel_rfl, fun X hX => ?_⟩) (lt.out _ okx5.out) ?_
        · go_simp
        refine wpAnyHI_take (i := 5) (v := .int .i64 0) (fun _ => trivial) rfl (by kernel_rfl) (fun _ _ _ h => by cases h.1) (Or.inl ⟨by kernel_rfl, fun X hX => ?_⟩) (lt.out _ okx5.out) ?_
        · go_simp
        have hz0 : X5.cell? ⟨X1.heap.size, 0, none⟩ = some (.int .i64 0) := (blk_cell zg5.out 0).trans rfl
        have hz1 : X5.cell? ⟨X1.heap.size, 1, none⟩ = some (.int .i64 0) := (blk_cell zg5.out 1).trans rfl
        have hz2 : X5.cell? ⟨X1.heap.size, 2, none⟩ = some (.int .i64 0) := (blk_cell zg5.out 2).trans rfl
        have hf0 : X5.frozen? ⟨X1.heap.size, 0, none⟩ = false := blk_frozen zg5.out 0
        have hf1 : X5.frozen? ⟨X1.heap.size, 1, none⟩ = false := blk_frozen zg5.out 1
        have hf2 : X5.frozen? ⟨X1.heap.size, 2, none⟩ = false := blk_frozen zg5.out 2
        have hp0 := blk_put (cs := #[.int .i64 0, .int .i64 0, .int .i64 0]) zg5.out 0 (.int .i64 109) rfl
        have hp1 := blk_put (cs := #[.int .i64 109, .int .i64 0, .int .i64 0]) hp0 1 (.int .i64 55) rfl
        have hp2 := blk_put (cs := #[.int .i64 109, .int .i64 55, .int .i64 0]) hp1 2 (.int .i64 68) rfl
        have okz := Aside0.mk (okr.out.far (okr.out.far (okr.out.far okx5.out (show w8.heap.size ≤ X1.heap.size from by omega) 0 (.int .i64 109)) (show w8.heap.size ≤ X1.heap.size from by omega) 1 (.int .i64 55)) (show w8.heap.size ≤ X1.heap.size from by omega) 2 (.int .i64 68))
        refine wpAnyHI_one (i := 7) (fun _ => trivial) rfl (by kernel_rfl) (fun K' hK' => ?_)
        rw [if_pos (by kernel_rfl)]
        go_simp
        refine hK' _ _ (lt.out _ okz.out) ?_
        clear hK' K'
        refine wpAnyHI_take (i := 8) (v := .int .i64 0) (fun _ => trivial) rfl (by kernel_rfl) (fun _ _ _ h => by cases h.1) (Or.inl ⟨by kernel_rfl, fun X hX => ?_⟩) (lt.out _ okz.out) ?_
        · go_simp
        refine wpAnyHI_done (by kernel_rfl) ?_ _
        exact ⟨rfl, X1.heap.size, (by kernel_rfl), (okz.out.cons hp2)⟩
    · skip
      rw [if_pos (by kernel_rfl)]
      go_simp
      have okx6 := Aside0.mk (okd.out.step (below_alloc (Below.refl _ _) (Obj.cells #[.int .i64 0, .int .i64 0, .int .i64 0] 58 (0, 0))))
      have zg6 : Aside0 ((w8.drew.alloc (Obj.cells #[.int .i64 0, .int .i64 0, .int .i64 0] 58 (0, 0))).heap[w8.heap.size]? = some (Obj.cells #[.int .i64 0, .int .i64 0, .int .i64 0] 58 (0, 0))) := ⟨blk_new w8.drew (Obj.cells #[.int .i64 0, .int .i64 0, .int .i64 0] 58 (0, 0))⟩
      have hsa6 : (w8.drew.alloc (Obj.cells #[.int .i64 0, .int .i64 0, .int .i64 0] 58 (0, 0))).heap.size = w8.heap.size + 1 := World.size_alloc _ _
      refine hK' _ _ (lt.out _ okx6.out) ?_
      clear hK' K'
      refine wpAnyHI_one (i := 1) (fun _ => trivial) rfl (by kernel_rfl) (fun K' hK' => ?_)
      rw [if_pos (by kernel_rfl)]
      go_simp
      refine ⟨trivial, (callsIn_wide.2 (quietuslaw14_when.calls 55 57 55 57 _ rfl)).mono ?_⟩
      rintro e X7 ⟨rfl, hb⟩
      dsimp only
      have okx7 := Aside0.mk (okx6.out.step hb)
      have zg7 := Aside0.mk (blk_below zg6.out hb)
      have hs7 : (w8.drew.alloc (Obj.cells #[.int .i64 0, .int .i64 0, .int .i64 0] 58 (0, 0))).heap.size ≤ X7.heap.size := hb.size
      refine hK' _ _ (lt.out _ okx7.out) ?_
      clear hK' K' hb
      refine wpAnyHI_one (i := 2) (fun _ => trivial) rfl (by kernel_rfl) (fun K' hK' => ?_)
      rw [if_pos (by kernel_rfl)]
      go_simp
      refine ⟨trivial, (callsIn_wide.2 (clock_Answer.calls 9 100000 _ 1 ([⟨100, ⟨50, 60⟩⟩] : List S58) 100 109 55 57 109 55 68 0 _ (San14.row_ (i := 6) okx7.out rfl) (by simp) (by kernel_rfl))).mono ?_⟩
      rintro e X8 ⟨rfl, hb⟩
      dsimp only
      have okx8 := Aside0.mk (okx7.out.step hb)
      have zg8 := Aside0.mk (blk_below zg7.out hb)
      have hs8 : X7.heap.size ≤ X8.heap.size := hb.size
      refine hK' _ _ (lt.out _ okx8.out) ?_
      clear hK' K' hb
      refine wpAnyHI_take (i := 3) (v := .tuple #[.agg #[.int .i64 109, .int .i64 55, .int .i64 68], .int .i64 0]) (fun _ => trivial) rfl (by kernel_rfl) (fun _ _ _ h => by cases h.1) (Or.inl ⟨by kernel_rfl, fun X hX => ?_⟩) (lt.out _ okx8.out) ?_
      · go_simp
      refine wpAnyHI_take (i := 4) (v := .agg #[.int .i64 109, .int .i64 55, .int .i64 68]) (fun _ => trivial) rfl (by kernel_rfl) (fun _ _ _ h => by cases h.1) (Or.inl ⟨by kernel_rfl, fun X hX => ?_⟩) (lt.out _ okx8.out) ?_
      · go_simp
      refine wpAnyHI_take (i := 5) (v := .int .i64 0) (fun _ => trivial) rfl (by kernel_rfl) (fun _ _ _ h => by cases h.1) (Or.inl ⟨by kernel_rfl, fun X hX => ?_⟩) (lt.out _ okx8.out) ?_
      · go_simp
      have hz0 : X8.cell? ⟨w8.heap.size, 0, none⟩ = some (.int .i64 0) := (blk_cell zg8.out 0).trans rfl
      have hz1 : X8.cell? ⟨w8.heap.size, 1, none⟩ = some (.int .i64 0) := (blk_cell zg8.out 1).trans rfl
      have hz2 : X8.cell? ⟨w8.heap.size, 2, none⟩ = some (.int .i64 0) := (blk_cell zg8.out 2).trans rfl
      have hf0 : X8.frozen? ⟨w8.heap.size, 0, none⟩ = false := blk_frozen zg8.out 0
      have hf1 : X8.frozen? ⟨w8.heap.size, 1, none⟩ = false := blk_frozen zg8.out 1
      have hf2 : X8.frozen? ⟨w8.heap.size, 2, none⟩ = false := blk_frozen zg8.out 2
      have hp0 := blk_put (cs := #[.int .i64 0, .int .i64 0, .int .i64 0]) zg8.out 0 (.int .i64 109) rfl
      have hp1 := blk_put (cs := #[.int .i64 109, .int .i64 0, .int .i64 0]) hp0 1 (.int .i64 55) rfl
      have hp2 := blk_put (cs := #[.int .i64 109, .int .i64 55, .int .i64 0]) hp1 2 (.int .i64 68) rfl
      have okz := Aside0.mk (okr.out.far (okr.out.far (okr.out.far okx8.out (show w8.heap.size ≤ w8.heap.size from by omega) 0 (.int .i64 109)) (show w8.heap.size ≤ w8.heap.size from by omega) 1 (.int .i64 55)) (show w8.heap.size ≤ w8.heap.size from by omega) 2 (.int .i64 68))
      refine wpAnyHI_one (i := 7) (fun _ => trivial) rfl (by kernel_rfl) (fun K' hK' => ?_)
      rw [if_pos (by kernel_rfl)]
      go_simp
      refine hK' _ _ (lt.out _ okz.out) ?_
      clear hK' K'
      refine wpAnyHI_take (i := 8) (v := .int .i64 0) (fun _ => trivial) rfl (by kernel_rfl) (fun _ _ _ h => by cases h.1) (Or.inl ⟨by kernel_rfl, fun X hX => ?_⟩) (lt.out _ okz.out) ?_
      · go_simp
      refine wpAnyHI_done (by kernel_rfl) ?_ _
      exact ⟨rfl, w8.heap.size, (by kernel_rfl), (okz.out.cons hp2)⟩
  rintro a' w9 ⟨g9, rfl, okp⟩
  have ok9 := Aside0.mk okp
  clear okp okr
  go_simp
  have hgt8 : g9 < w9.heap.size := blk_lt (ok9.out.held 0 _ rfl)
  have hz8_0 : w9.cell? ⟨g9, 0, none⟩ = some (.int .i64 109) := (blk_cell (ok9.out.held 0 _ rfl) 0).trans rfl
  have hz8_1 : w9.cell? ⟨g9, 1, none⟩ = some (.int .i64 55) := (blk_cell (ok9.out.held 0 _ rfl) 1).trans rfl
  have hz8_2 : w9.cell? ⟨g9, 2, none⟩ = some (.int .i64 68) := (blk_cell (ok9.out.held 0 _ rfl) 2).trans rfl
  have hgt7 : g8 < w9.heap.size := blk_lt (ok9.out.held 1 _ rfl)
  have hz7_0 : w9.cell? ⟨g8, 0, none⟩ = some (.int .i64 0) := (blk_cell (ok9.out.held 1 _ rfl) 0).trans rfl
  have hz7_1 : w9.cell? ⟨g8, 1, none⟩ = some (.slice A8 0 c8) := (blk_cell (ok9.out.held 1 _ rfl) 1).trans rfl
  have hgt6 : g7 < w9.heap.size := blk_lt (ok9.out.held 2 _ rfl)
  have hz6_0 : w9.cell? ⟨g7, 0, none⟩ = some (.int .i64 100000) := (blk_cell (ok9.out.held 2 _ rfl) 0).trans rfl
  have hz6_1 : w9.cell? ⟨g7, 1, none⟩ = some (.slice A7 2 c7) := (blk_cell (ok9.out.held 2 _ rfl) 1).trans rfl
  have hgt5 : w6.heap.size < w9.heap.size := blk_lt (ok9.out.held 3 _ rfl)
  have hz5_0 : w9.cell? ⟨w6.heap.size, 0, none⟩ = some (.int .i64 49) := (blk_cell (ok9.out.held 3 _ rfl) 0).trans rfl
  have hz5_1 : w9.cell? ⟨w6.heap.size, 1, none⟩ = some (.int .i64 61) := (blk_cell (ok9.out.held 3 _ rfl) 1).trans rfl
  have hgt4 : w5.heap.size < w9.heap.size := blk_lt (ok9.out.held 4 _ rfl)
  have hz4_0 : w9.cell? ⟨w5.heap.size, 0, none⟩ = some (.int .i64 37) := (blk_cell (ok9.out.held 4 _ rfl) 0).trans rfl
  have hz4_1 : w9.cell? ⟨w5.heap.size, 1, none⟩ = some (.int .i64 50) := (blk_cell (ok9.out.held 4 _ rfl) 1).trans rfl
  have hgt3 : w4.heap.size < w9.heap.size := blk_lt (ok9.out.held 5 _ rfl)
  have hz3_0 : w9.cell? ⟨w4.heap.size, 0, none⟩ = some (.int .i64 60) := (blk_cell (ok9.out.held 5 _ rfl) 0).trans rfl
  have hz3_1 : w9.cell? ⟨w4.heap.size, 1, none⟩ = some (.int .i64 73) := (blk_cell (ok9.out.held 5 _ rfl) 1).trans rfl
  have hgt2 : w1.heap.size + 1 < w9.heap.size := blk_lt (ok9.out.held 6 _ rfl)
  have hz2_0 : w9.cell? ⟨w1.heap.size + 1, 0, none⟩ = some (.int .i64 100000) := (blk_cell (ok9.out.held 6 _ rfl) 0).trans rfl
  have hz2_1 : w9.cell? ⟨w1.heap.size + 1, 1, none⟩ = some (.slice (some ⟨w1.heap.size, 0, none⟩) 1 1) := (blk_cell (ok9.out.held 6 _ rfl) 1).trans rfl
  have hgt1 : w1.heap.size < w9.heap.size := blk_lt (ok9.out.held 7 _ rfl)
  have hz1_0 : w9.cell? ⟨w1.heap.size, 0, none⟩ = some (.int .i64 100) := (blk_cell (ok9.out.held 7 _ rfl) 0).trans rfl
  have hz1_1 : w9.cell? ⟨w1.heap.size, 1, none⟩ = some (.int .i64 50) := (blk_cell (ok9.out.held 7 _ rfl) 1).trans rfl
  have hz1_2 : w9.cell? ⟨w1.heap.size, 2, none⟩ = some (.int .i64 60) := (blk_cell (ok9.out.held 7 _ rfl) 2).trans rfl
  go_wp2_with fail
  have okn := ok9.out
  have okm := Aside0.mk okn
  clear okn
  have okn := okm
  clear okm
  refine (clock_Latest.calls 9 100000 _ 1 ([⟨100, ⟨50, 60⟩⟩] : List S58) 73 111 0 _ (San14.row_ (i := 7) okn.out rfl) (by simp) (by kernel_rfl)).mono ?_
  rintro e w10 ⟨rfl, hb⟩
  have ok10 := Aside0.mk (okn.out.step hb)
  clear hb okn
  clear hgt8 hz8_0 hz8_1 hz8_2 hgt7 hz7_0 hz7_1 hgt6 hz6_0 hz6_1 hgt5 hz5_0 hz5_1 hgt4 hz4_0 hz4_1 hgt3 hz3_0 hz3_1 hgt2 hz2_0 hz2_1 hgt1 hz1_0 hz1_1 hz1_2
  have hgt8 : g9 < w10.heap.size := blk_lt (ok10.out.held 0 _ rfl)
  have hz8_0 : w10.cell? ⟨g9, 0, none⟩ = some (.int .i64 109) := (blk_cell (ok10.out.held 0 _ rfl) 0).trans rfl
  have hz8_1 : w10.cell? ⟨g9, 1, none⟩ = some (.int .i64 55) := (blk_cell (ok10.out.held 0 _ rfl) 1).trans rfl
  have hz8_2 : w10.cell? ⟨g9, 2, none⟩ = some (.int .i64 68) := (blk_cell (ok10.out.held 0 _ rfl) 2).trans rfl
  have hgt7 : g8 < w10.heap.size := blk_lt (ok10.out.held 1 _ rfl)
  have hz7_0 : w10.cell? ⟨g8, 0, none⟩ = some (.int .i64 0) := (blk_cell (ok10.out.held 1 _ rfl) 0).trans rfl
  have hz7_1 : w10.cell? ⟨g8, 1, none⟩ = some (.slice A8 0 c8) := (blk_cell (ok10.out.held 1 _ rfl) 1).trans rfl
  have hgt6 : g7 < w10.heap.size := blk_lt (ok10.out.held 2 _ rfl)
  have hz6_0 : w10.cell? ⟨g7, 0, none⟩ = some (.int .i64 100000) := (blk_cell (ok10.out.held 2 _ rfl) 0).trans rfl
  have hz6_1 : w10.cell? ⟨g7, 1, none⟩ = some (.slice A7 2 c7) := (blk_cell (ok10.out.held 2 _ rfl) 1).trans rfl
  have hgt5 : w6.heap.size < w10.heap.size := blk_lt (ok10.out.held 3 _ rfl)
  have hz5_0 : w10.cell? ⟨w6.heap.size, 0, none⟩ = some (.int .i64 49) := (blk_cell (ok10.out.held 3 _ rfl) 0).trans rfl
  have hz5_1 : w10.cell? ⟨w6.heap.size, 1, none⟩ = some (.int .i64 61) := (blk_cell (ok10.out.held 3 _ rfl) 1).trans rfl
  have hgt4 : w5.heap.size < w10.heap.size := blk_lt (ok10.out.held 4 _ rfl)
  have hz4_0 : w10.cell? ⟨w5.heap.size, 0, none⟩ = some (.int .i64 37) := (blk_cell (ok10.out.held 4 _ rfl) 0).trans rfl
  have hz4_1 : w10.cell? ⟨w5.heap.size, 1, none⟩ = some (.int .i64 50) := (blk_cell (ok10.out.held 4 _ rfl) 1).trans rfl
  have hgt3 : w4.heap.size < w10.heap.size := blk_lt (ok10.out.held 5 _ rfl)
  have hz3_0 : w10.cell? ⟨w4.heap.size, 0, none⟩ = some (.int .i64 60) := (blk_cell (ok10.out.held 5 _ rfl) 0).trans rfl
  have hz3_1 : w10.cell? ⟨w4.heap.size, 1, none⟩ = some (.int .i64 73) := (blk_cell (ok10.out.held 5 _ rfl) 1).trans rfl
  have hgt2 : w1.heap.size + 1 < w10.heap.size := blk_lt (ok10.out.held 6 _ rfl)
  have hz2_0 : w10.cell? ⟨w1.heap.size + 1, 0, none⟩ = some (.int .i64 100000) := (blk_cell (ok10.out.held 6 _ rfl) 0).trans rfl
  have hz2_1 : w10.cell? ⟨w1.heap.size + 1, 1, none⟩ = some (.slice (some ⟨w1.heap.size, 0, none⟩) 1 1) := (blk_cell (ok10.out.held 6 _ rfl) 1).trans rfl
  have hgt1 : w1.heap.size < w10.heap.size := blk_lt (ok10.out.held 7 _ rfl)
  have hz1_0 : w10.cell? ⟨w1.heap.size, 0, none⟩ = some (.int .i64 100) := (blk_cell (ok10.out.held 7 _ rfl) 0).trans rfl
  have hz1_1 : w10.cell? ⟨w1.heap.size, 1, none⟩ = some (.int .i64 50) := (blk_cell (ok10.out.held 7 _ rfl) 1).trans rfl
  have hz1_2 : w10.cell? ⟨w1.heap.size, 2, none⟩ = some (.int .i64 60) := (blk_cell (ok10.out.held 7 _ rfl) 2).trans rfl
  go_wp2_with fail
  have okn := ok10.out
  have okm := Aside0.mk okn
  clear okn
  have okn := okm
  clear okm
  refine (clock_Earliest.calls 9 100000 _ 1 ([⟨100, ⟨50, 60⟩⟩] : List S58) 60 111 0 _ (San14.row_ (i := 7) okn.out rfl) (by simp) (by kernel_rfl)).mono ?_
  rintro e w11 ⟨rfl, hb⟩
  have ok11 := Aside0.mk (okn.out.step hb)
  clear hb okn
  clear hgt8 hz8_0 hz8_1 hz8_2 hgt7 hz7_0 hz7_1 hgt6 hz6_0 hz6_1 hgt5 hz5_0 hz5_1 hgt4 hz4_0 hz4_1 hgt3 hz3_0 hz3_1 hgt2 hz2_0 hz2_1 hgt1 hz1_0 hz1_1 hz1_2
  have hgt8 : g9 < w11.heap.size := blk_lt (ok11.out.held 0 _ rfl)
  have hz8_0 : w11.cell? ⟨g9, 0, none⟩ = some (.int .i64 109) := (blk_cell (ok11.out.held 0 _ rfl) 0).trans rfl
  have hz8_1 : w11.cell? ⟨g9, 1, none⟩ = some (.int .i64 55) := (blk_cell (ok11.out.held 0 _ rfl) 1).trans rfl
  have hz8_2 : w11.cell? ⟨g9, 2, none⟩ = some (.int .i64 68) := (blk_cell (ok11.out.held 0 _ rfl) 2).trans rfl
  have hgt7 : g8 < w11.heap.size := blk_lt (ok11.out.held 1 _ rfl)
  have hz7_0 : w11.cell? ⟨g8, 0, none⟩ = some (.int .i64 0) := (blk_cell (ok11.out.held 1 _ rfl) 0).trans rfl
  have hz7_1 : w11.cell? ⟨g8, 1, none⟩ = some (.slice A8 0 c8) := (blk_cell (ok11.out.held 1 _ rfl) 1).trans rfl
  have hgt6 : g7 < w11.heap.size := blk_lt (ok11.out.held 2 _ rfl)
  have hz6_0 : w11.cell? ⟨g7, 0, none⟩ = some (.int .i64 100000) := (blk_cell (ok11.out.held 2 _ rfl) 0).trans rfl
  have hz6_1 : w11.cell? ⟨g7, 1, none⟩ = some (.slice A7 2 c7) := (blk_cell (ok11.out.held 2 _ rfl) 1).trans rfl
  have hgt5 : w6.heap.size < w11.heap.size := blk_lt (ok11.out.held 3 _ rfl)
  have hz5_0 : w11.cell? ⟨w6.heap.size, 0, none⟩ = some (.int .i64 49) := (blk_cell (ok11.out.held 3 _ rfl) 0).trans rfl
  have hz5_1 : w11.cell? ⟨w6.heap.size, 1, none⟩ = some (.int .i64 61) := (blk_cell (ok11.out.held 3 _ rfl) 1).trans rfl
  have hgt4 : w5.heap.size < w11.heap.size := blk_lt (ok11.out.held 4 _ rfl)
  have hz4_0 : w11.cell? ⟨w5.heap.size, 0, none⟩ = some (.int .i64 37) := (blk_cell (ok11.out.held 4 _ rfl) 0).trans rfl
  have hz4_1 : w11.cell? ⟨w5.heap.size, 1, none⟩ = some (.int .i64 50) := (blk_cell (ok11.out.held 4 _ rfl) 1).trans rfl
  have hgt3 : w4.heap.size < w11.heap.size := blk_lt (ok11.out.held 5 _ rfl)
  have hz3_0 : w11.cell? ⟨w4.heap.size, 0, none⟩ = some (.int .i64 60) := (blk_cell (ok11.out.held 5 _ rfl) 0).trans rfl
  have hz3_1 : w11.cell? ⟨w4.heap.size, 1, none⟩ = some (.int .i64 73) := (blk_cell (ok11.out.held 5 _ rfl) 1).trans rfl
  have hgt2 : w1.heap.size + 1 < w11.heap.size := blk_lt (ok11.out.held 6 _ rfl)
  have hz2_0 : w11.cell? ⟨w1.heap.size + 1, 0, none⟩ = some (.int .i64 100000) := (blk_cell (ok11.out.held 6 _ rfl) 0).trans rfl
  have hz2_1 : w11.cell? ⟨w1.heap.size + 1, 1, none⟩ = some (.slice (some ⟨w1.heap.size, 0, none⟩) 1 1) := (blk_cell (ok11.out.held 6 _ rfl) 1).trans rfl
  have hgt1 : w1.heap.size < w11.heap.size := blk_lt (ok11.out.held 7 _ rfl)
  have hz1_0 : w11.cell? ⟨w1.heap.size, 0, none⟩ = some (.int .i64 100) := (blk_cell (ok11.out.held 7 _ rfl) 0).trans rfl
  have hz1_1 : w11.cell? ⟨w1.heap.size, 1, none⟩ = some (.int .i64 50) := (blk_cell (ok11.out.held 7 _ rfl) 1).trans rfl
  have hz1_2 : w11.cell? ⟨w1.heap.size, 2, none⟩ = some (.int .i64 60) := (blk_cell (ok11.out.held 7 _ rfl) 2).trans rfl
  go_wp2_with fail
  have okn := ok11.out
  have okm := Aside0.mk okn
  clear okn
  have okn := okm
  clear okm
  refine (quietuslaw14_when.calls 1 5 1 5 _ rfl).mono ?_
  rintro e w12 ⟨rfl, hb⟩
  have ok12 := Aside0.mk (okn.out.step hb)
  clear hb okn
  clear hgt8 hz8_0 hz8_1 hz8_2 hgt7 hz7_0 hz7_1 hgt6 hz6_0 hz6_1 hgt5 hz5_0 hz5_1 hgt4 hz4_0 hz4_1 hgt3 hz3_0 hz3_1 hgt2 hz2_0 hz2_1 hgt1 hz1_0 hz1_1 hz1_2
  have hgt8 : g9 < w12.heap.size := blk_lt (ok12.out.held 0 _ rfl)
  have hz8_0 : w12.cell? ⟨g9, 0, none⟩ = some (.int .i64 109) := (blk_cell (ok12.out.held 0 _ rfl) 0).trans rfl
  have hz8_1 : w12.cell? ⟨g9, 1, none⟩ = some (.int .i64 55) := (blk_cell (ok12.out.held 0 _ rfl) 1).trans rfl
  have hz8_2 : w12.cell? ⟨g9, 2, none⟩ = some (.int .i64 68) := (blk_cell (ok12.out.held 0 _ rfl) 2).trans rfl
  have hgt7 : g8 < w12.heap.size := blk_lt (ok12.out.held 1 _ rfl)
  have hz7_0 : w12.cell? ⟨g8, 0, none⟩ = some (.int .i64 0) := (blk_cell (ok12.out.held 1 _ rfl) 0).trans rfl
  have hz7_1 : w12.cell? ⟨g8, 1, none⟩ = some (.slice A8 0 c8) := (blk_cell (ok12.out.held 1 _ rfl) 1).trans rfl
  have hgt6 : g7 < w12.heap.size := blk_lt (ok12.out.held 2 _ rfl)
  have hz6_0 : w12.cell? ⟨g7, 0, none⟩ = some (.int .i64 100000) := (blk_cell (ok12.out.held 2 _ rfl) 0).trans rfl
  have hz6_1 : w12.cell? ⟨g7, 1, none⟩ = some (.slice A7 2 c7) := (blk_cell (ok12.out.held 2 _ rfl) 1).trans rfl
  have hgt5 : w6.heap.size < w12.heap.size := blk_lt (ok12.out.held 3 _ rfl)
  have hz5_0 : w12.cell? ⟨w6.heap.size, 0, none⟩ = some (.int .i64 49) := (blk_cell (ok12.out.held 3 _ rfl) 0).trans rfl
  have hz5_1 : w12.cell? ⟨w6.heap.size, 1, none⟩ = some (.int .i64 61) := (blk_cell (ok12.out.held 3 _ rfl) 1).trans rfl
  have hgt4 : w5.heap.size < w12.heap.size := blk_lt (ok12.out.held 4 _ rfl)
  have hz4_0 : w12.cell? ⟨w5.heap.size, 0, none⟩ = some (.int .i64 37) := (blk_cell (ok12.out.held 4 _ rfl) 0).trans rfl
  have hz4_1 : w12.cell? ⟨w5.heap.size, 1, none⟩ = some (.int .i64 50) := (blk_cell (ok12.out.held 4 _ rfl) 1).trans rfl
  have hgt3 : w4.heap.size < w12.heap.size := blk_lt (ok12.out.held 5 _ rfl)
  have hz3_0 : w12.cell? ⟨w4.heap.size, 0, none⟩ = some (.int .i64 60) := (blk_cell (ok12.out.held 5 _ rfl) 0).trans rfl
  have hz3_1 : w12.cell? ⟨w4.heap.size, 1, none⟩ = some (.int .i64 73) := (blk_cell (ok12.out.held 5 _ rfl) 1).trans rfl
  have hgt2 : w1.heap.size + 1 < w12.heap.size := blk_lt (ok12.out.held 6 _ rfl)
  have hz2_0 : w12.cell? ⟨w1.heap.size + 1, 0, none⟩ = some (.int .i64 100000) := (blk_cell (ok12.out.held 6 _ rfl) 0).trans rfl
  have hz2_1 : w12.cell? ⟨w1.heap.size + 1, 1, none⟩ = some (.slice (some ⟨w1.heap.size, 0, none⟩) 1 1) := (blk_cell (ok12.out.held 6 _ rfl) 1).trans rfl
  have hgt1 : w1.heap.size < w12.heap.size := blk_lt (ok12.out.held 7 _ rfl)
  have hz1_0 : w12.cell? ⟨w1.heap.size, 0, none⟩ = some (.int .i64 100) := (blk_cell (ok12.out.held 7 _ rfl) 0).trans rfl
  have hz1_1 : w12.cell? ⟨w1.heap.size, 1, none⟩ = some (.int .i64 50) := (blk_cell (ok12.out.held 7 _ rfl) 1).trans rfl
  have hz1_2 : w12.cell? ⟨w1.heap.size, 2, none⟩ = some (.int .i64 60) := (blk_cell (ok12.out.held 7 _ rfl) 2).trans rfl
  go_wp2_with fail
  have okn := ok12.out
  have okm := Aside0.mk okn
  clear okn
  have okn := okm
  clear okm
  refine (quietuslaw14_when.calls 4 9 4 9 _ rfl).mono ?_
  rintro e w13 ⟨rfl, hb⟩
  have ok13 := Aside0.mk (okn.out.step hb)
  clear hb okn
  clear hgt8 hz8_0 hz8_1 hz8_2 hgt7 hz7_0 hz7_1 hgt6 hz6_0 hz6_1 hgt5 hz5_0 hz5_1 hgt4 hz4_0 hz4_1 hgt3 hz3_0 hz3_1 hgt2 hz2_0 hz2_1 hgt1 hz1_0 hz1_1 hz1_2
  have hgt8 : g9 < w13.heap.size := blk_lt (ok13.out.held 0 _ rfl)
  have hz8_0 : w13.cell? ⟨g9, 0, none⟩ = some (.int .i64 109) := (blk_cell (ok13.out.held 0 _ rfl) 0).trans rfl
  have hz8_1 : w13.cell? ⟨g9, 1, none⟩ = some (.int .i64 55) := (blk_cell (ok13.out.held 0 _ rfl) 1).trans rfl
  have hz8_2 : w13.cell? ⟨g9, 2, none⟩ = some (.int .i64 68) := (blk_cell (ok13.out.held 0 _ rfl) 2).trans rfl
  have hgt7 : g8 < w13.heap.size := blk_lt (ok13.out.held 1 _ rfl)
  have hz7_0 : w13.cell? ⟨g8, 0, none⟩ = some (.int .i64 0) := (blk_cell (ok13.out.held 1 _ rfl) 0).trans rfl
  have hz7_1 : w13.cell? ⟨g8, 1, none⟩ = some (.slice A8 0 c8) := (blk_cell (ok13.out.held 1 _ rfl) 1).trans rfl
  have hgt6 : g7 < w13.heap.size := blk_lt (ok13.out.held 2 _ rfl)
  have hz6_0 : w13.cell? ⟨g7, 0, none⟩ = some (.int .i64 100000) := (blk_cell (ok13.out.held 2 _ rfl) 0).trans rfl
  have hz6_1 : w13.cell? ⟨g7, 1, none⟩ = some (.slice A7 2 c7) := (blk_cell (ok13.out.held 2 _ rfl) 1).trans rfl
  have hgt5 : w6.heap.size < w13.heap.size := blk_lt (ok13.out.held 3 _ rfl)
  have hz5_0 : w13.cell? ⟨w6.heap.size, 0, none⟩ = some (.int .i64 49) := (blk_cell (ok13.out.held 3 _ rfl) 0).trans rfl
  have hz5_1 : w13.cell? ⟨w6.heap.size, 1, none⟩ = some (.int .i64 61) := (blk_cell (ok13.out.held 3 _ rfl) 1).trans rfl
  have hgt4 : w5.heap.size < w13.heap.size := blk_lt (ok13.out.held 4 _ rfl)
  have hz4_0 : w13.cell? ⟨w5.heap.size, 0, none⟩ = some (.int .i64 37) := (blk_cell (ok13.out.held 4 _ rfl) 0).trans rfl
  have hz4_1 : w13.cell? ⟨w5.heap.size, 1, none⟩ = some (.int .i64 50) := (blk_cell (ok13.out.held 4 _ rfl) 1).trans rfl
  have hgt3 : w4.heap.size < w13.heap.size := blk_lt (ok13.out.held 5 _ rfl)
  have hz3_0 : w13.cell? ⟨w4.heap.size, 0, none⟩ = some (.int .i64 60) := (blk_cell (ok13.out.held 5 _ rfl) 0).trans rfl
  have hz3_1 : w13.cell? ⟨w4.heap.size, 1, none⟩ = some (.int .i64 73) := (blk_cell (ok13.out.held 5 _ rfl) 1).trans rfl
  have hgt2 : w1.heap.size + 1 < w13.heap.size := blk_lt (ok13.out.held 6 _ rfl)
  have hz2_0 : w13.cell? ⟨w1.heap.size + 1, 0, none⟩ = some (.int .i64 100000) := (blk_cell (ok13.out.held 6 _ rfl) 0).trans rfl
  have hz2_1 : w13.cell? ⟨w1.heap.size + 1, 1, none⟩ = some (.slice (some ⟨w1.heap.size, 0, none⟩) 1 1) := (blk_cell (ok13.out.held 6 _ rfl) 1).trans rfl
  have hgt1 : w1.heap.size < w13.heap.size := blk_lt (ok13.out.held 7 _ rfl)
  have hz1_0 : w13.cell? ⟨w1.heap.size, 0, none⟩ = some (.int .i64 100) := (blk_cell (ok13.out.held 7 _ rfl) 0).trans rfl
  have hz1_1 : w13.cell? ⟨w1.heap.size, 1, none⟩ = some (.int .i64 50) := (blk_cell (ok13.out.held 7 _ rfl) 1).trans rfl
  have hz1_2 : w13.cell? ⟨w1.heap.size, 2, none⟩ = some (.int .i64 60) := (blk_cell (ok13.out.held 7 _ rfl) 2).trans rfl
  go_wp2_with fail
  have okn := ok13.out
  have okm := Aside0.mk okn
  clear okn
  have okn := okm
  clear okm
  refine (clock_Join.calls 9 1 5 4 9 4 5 0 _ (by kernel_rfl)).mono ?_
  rintro e w14 ⟨rfl, hb⟩
  have ok14 := Aside0.mk (okn.out.step hb)
  clear hb okn
  clear hgt8 hz8_0 hz8_1 hz8_2 hgt7 hz7_0 hz7_1 hgt6 hz6_0 hz6_1 hgt5 hz5_0 hz5_1 hgt4 hz4_0 hz4_1 hgt3 hz3_0 hz3_1 hgt2 hz2_0 hz2_1 hgt1 hz1_0 hz1_1 hz1_2
  have hgt8 : g9 < w14.heap.size := blk_lt (ok14.out.held 0 _ rfl)
  have hz8_0 : w14.cell? ⟨g9, 0, none⟩ = some (.int .i64 109) := (blk_cell (ok14.out.held 0 _ rfl) 0).trans rfl
  have hz8_1 : w14.cell? ⟨g9, 1, none⟩ = some (.int .i64 55) := (blk_cell (ok14.out.held 0 _ rfl) 1).trans rfl
  have hz8_2 : w14.cell? ⟨g9, 2, none⟩ = some (.int .i64 68) := (blk_cell (ok14.out.held 0 _ rfl) 2).trans rfl
  have hgt7 : g8 < w14.heap.size := blk_lt (ok14.out.held 1 _ rfl)
  have hz7_0 : w14.cell? ⟨g8, 0, none⟩ = some (.int .i64 0) := (blk_cell (ok14.out.held 1 _ rfl) 0).trans rfl
  have hz7_1 : w14.cell? ⟨g8, 1, none⟩ = some (.slice A8 0 c8) := (blk_cell (ok14.out.held 1 _ rfl) 1).trans rfl
  have hgt6 : g7 < w14.heap.size := blk_lt (ok14.out.held 2 _ rfl)
  have hz6_0 : w14.cell? ⟨g7, 0, none⟩ = some (.int .i64 100000) := (blk_cell (ok14.out.held 2 _ rfl) 0).trans rfl
  have hz6_1 : w14.cell? ⟨g7, 1, none⟩ = some (.slice A7 2 c7) := (blk_cell (ok14.out.held 2 _ rfl) 1).trans rfl
  have hgt5 : w6.heap.size < w14.heap.size := blk_lt (ok14.out.held 3 _ rfl)
  have hz5_0 : w14.cell? ⟨w6.heap.size, 0, none⟩ = some (.int .i64 49) := (blk_cell (ok14.out.held 3 _ rfl) 0).trans rfl
  have hz5_1 : w14.cell? ⟨w6.heap.size, 1, none⟩ = some (.int .i64 61) := (blk_cell (ok14.out.held 3 _ rfl) 1).trans rfl
  have hgt4 : w5.heap.size < w14.heap.size := blk_lt (ok14.out.held 4 _ rfl)
  have hz4_0 : w14.cell? ⟨w5.heap.size, 0, none⟩ = some (.int .i64 37) := (blk_cell (ok14.out.held 4 _ rfl) 0).trans rfl
  have hz4_1 : w14.cell? ⟨w5.heap.size, 1, none⟩ = some (.int .i64 50) := (blk_cell (ok14.out.held 4 _ rfl) 1).trans rfl
  have hgt3 : w4.heap.size < w14.heap.size := blk_lt (ok14.out.held 5 _ rfl)
  have hz3_0 : w14.cell? ⟨w4.heap.size, 0, none⟩ = some (.int .i64 60) := (blk_cell (ok14.out.held 5 _ rfl) 0).trans rfl
  have hz3_1 : w14.cell? ⟨w4.heap.size, 1, none⟩ = some (.int .i64 73) := (blk_cell (ok14.out.held 5 _ rfl) 1).trans rfl
  have hgt2 : w1.heap.size + 1 < w14.heap.size := blk_lt (ok14.out.held 6 _ rfl)
  have hz2_0 : w14.cell? ⟨w1.heap.size + 1, 0, none⟩ = some (.int .i64 100000) := (blk_cell (ok14.out.held 6 _ rfl) 0).trans rfl
  have hz2_1 : w14.cell? ⟨w1.heap.size + 1, 1, none⟩ = some (.slice (some ⟨w1.heap.size, 0, none⟩) 1 1) := (blk_cell (ok14.out.held 6 _ rfl) 1).trans rfl
  have hgt1 : w1.heap.size < w14.heap.size := blk_lt (ok14.out.held 7 _ rfl)
  have hz1_0 : w14.cell? ⟨w1.heap.size, 0, none⟩ = some (.int .i64 100) := (blk_cell (ok14.out.held 7 _ rfl) 0).trans rfl
  have hz1_1 : w14.cell? ⟨w1.heap.size, 1, none⟩ = some (.int .i64 50) := (blk_cell (ok14.out.held 7 _ rfl) 1).trans rfl
  have hz1_2 : w14.cell? ⟨w1.heap.size, 2, none⟩ = some (.int .i64 60) := (blk_cell (ok14.out.held 7 _ rfl) 2).trans rfl
  go_wp2_with fail
  have okr := Aside0.mk ((ok14.out).add (.cells #[.int .i64 4, .int .i64 5] 56))
  clear hgt8 hz8_0 hz8_1 hz8_2 hgt7 hz7_0 hz7_1 hgt6 hz6_0 hz6_1 hgt5 hz5_0 hz5_1 hgt4 hz4_0 hz4_1 hgt3 hz3_0 hz3_1 hgt2 hz2_0 hz2_1 hgt1 hz1_0 hz1_1 hz1_2
  generalize (w14.alloc (.cells #[.int .i64 4, .int .i64 5] 56)) = wr14 at okr ⊢
  refine (wpIn_wide (n := 3)).1 ?_
  obtain ⟨S, hSdef⟩ : ∃ S : World → Prop, S = fun X => San14.Ok w X [(w14.heap.size, Obj.cells #[.int .i64 4, .int .i64 5] 56 (0, 0)), (g9, Obj.cells #[.int .i64 109, .int .i64 55, .int .i64 68] 58 (0, 0)), (g8, Obj.cells #[.int .i64 0, .slice A8 0 c8] 54 (0, 0)), (g7, Obj.cells #[.int .i64 100000, .slice A7 2 c7] 54 (0, 0)), (w6.heap.size, Obj.cells #[.int .i64 49, .int .i64 61] 56 (0, 0)), (w5.heap.size, Obj.cells #[.int .i64 37, .int .i64 50] 56 (0, 0)), (w4.heap.size, Obj.cells #[.int .i64 60, .int .i64 73] 56 (0, 0)), (w1.heap.size + 1, Obj.cells #[.int .i64 100000, .slice (some ⟨w1.heap.size, 0, none⟩) 1 1] 54 (0, 0)), (w1.heap.size, Obj.cells #[.int .i64 100, .int .i64 50, .int .i64 60] 58 (0, 0))] [w7] := ⟨_, rfl⟩
  have ls : Aside0 (∀ X, S X → San14.Ok w X [(w14.heap.size, Obj.cells #[.int .i64 4, .int .i64 5] 56 (0, 0)), (g9, Obj.cells #[.int .i64 109, .int .i64 55, .int .i64 68] 58 (0, 0)), (g8, Obj.cells #[.int .i64 0, .slice A8 0 c8] 54 (0, 0)), (g7, Obj.cells #[.int .i64 100000, .slice A7 2 c7] 54 (0, 0)), (w6.heap.size, Obj.cells #[.int .i64 49, .int .i64 61] 56 (0, 0)), (w5.heap.size, Obj.cells #[.int .i64 37, .int .i64 50] 56 (0, 0)), (w4.heap.size, Obj.cells #[.int .i64 60, .int .i64 73] 56 (0, 0)), (w1.heap.size + 1, Obj.cells #[.int .i64 100000, .slice (some ⟨w1.heap.size, 0, none⟩) 1 1] 54 (0, 0)), (w1.heap.size, Obj.cells #[.int .i64 100, .int .i64 50, .int .i64 60] 58 (0, 0))] [w7]) := ⟨fun X h => by rw [hSdef] at h; exact h⟩
  have lt : Aside0 (∀ X, San14.Ok w X [(w14.heap.size, Obj.cells #[.int .i64 4, .int .i64 5] 56 (0, 0)), (g9, Obj.cells #[.int .i64 109, .int .i64 55, .int .i64 68] 58 (0, 0)), (g8, Obj.cells #[.int .i64 0, .slice A8 0 c8] 54 (0, 0)), (g7, Obj.cells #[.int .i64 100000, .slice A7 2 c7] 54 (0, 0)), (w6.heap.size, Obj.cells #[.int .i64 49, .int .i64 61] 56 (0, 0)), (w5.heap.size, Obj.cells #[.int .i64 37, .int .i64 50] 56 (0, 0)), (w4.heap.size, Obj.cells #[.int .i64 60, .int .i64 73] 56 (0, 0)), (w1.heap.size + 1, Obj.cells #[.int .i64 100000, .slice (some ⟨w1.heap.size, 0, none⟩) 1 1] 54 (0, 0)), (w1.heap.size, Obj.cells #[.int .i64 100, .int .i64 50, .int .i64 60] 58 (0, 0))] [w7] → S X) := ⟨fun X h => by rw [hSdef]; exact h⟩
  have hmix : Try.prog.follows .mixedOrders = true := by kernel_rfl
  have ok14_0 := Aside0.mk (okr.out.step (below_drew (Below.refl _ _)))
  clear hSdef
  refine wpIn_region_held S 38 hmix ?_
  refine wpAnyHI_take (i := 0) (v := .int .i64 10) (fun _ => trivial) rfl (by kernel_rfl) (fun _ _ _ h => h) (Or.inl ⟨by kernel_rfl, fun X hX => ?_⟩) (lt.out _ ok14_0.out) ?_
  · go_simp
  refine wpAnyHI_take (i := 1) (v := .bool true) (fun _ => trivial) rfl (by kernel_rfl) (fun _ _ _ h => h) (Or.inl ⟨by kernel_rfl, fun X hX => ?_⟩) (lt.out _ ok14_0.out) ?_
  · go_simp
  refine wpAnyHI_take (i := 2) (v := .bool true) (fun _ => trivial) rfl (by kernel_rfl) (fun _ _ _ h => h) (Or.inl ⟨by kernel_rfl, fun X hX => ?_⟩) (lt.out _ ok14_0.out) ?_
  · go_simp
  refine wpAnyHI_take (i := 3) (v := .int .i64 13) (fun _ => trivial) rfl (by kernel_rfl) (fun _ _ _ h => h) (Or.inl ⟨by kernel_rfl, fun X hX => ?_⟩) (lt.out _ ok14_0.out) ?_
  · go_simp
  refine wpAnyHI_take (i := 4) (v := .bool true) (fun _ => trivial) rfl (by kernel_rfl) (fun _ _ _ h => h) (Or.inl ⟨by kernel_rfl, fun X hX => ?_⟩) (lt.out _ ok14_0.out) ?_
  · go_simp
  refine wpAnyHI_take (i := 5) (v := .bool true) (fun _ => trivial) rfl (by kernel_rfl) (fun _ _ _ h => h) (Or.inl ⟨by kernel_rfl, fun X hX => ?_⟩) (lt.out _ ok14_0.out) ?_
  · go_simp
  refine wpAnyHI_take (i := 6) (v := .bool true) (fun _ => trivial) rfl (by kernel_rfl) (fun _ _ _ h => h) (Or.inl ⟨by kernel_rfl, fun X hX => ?_⟩) (lt.out _ ok14_0.out) ?_
  · go_simp
  refine wpAnyHI_take (i := 7) (v := .int .i64 0) (fun _ => trivial) rfl (by kernel_rfl) (fun _ _ _ h => h) (Or.inl ⟨by kernel_rfl, fun X hX => ?_⟩) (lt.out _ ok14_0.out) ?_
  · go_simp
  refine wpAnyHI_take (i := 8) (v := .bool true) (fun _ => trivial) rfl (by kernel_rfl) (fun _ _ _ h => h) (Or.inl ⟨by kernel_rfl, fun X hX => ?_⟩) (lt.out _ ok14_0.out) ?_
  · go_simp
  refine wpAnyHI_take (i := 9) (v := .bool true) (fun _ => trivial) rfl (by kernel_rfl) (fun _ _ _ h => h) (Or.inl ⟨by kernel_rfl, fun X hX => ?_⟩) (lt.out _ ok14_0.out) ?_
  · go_simp
  refine wpAnyHI_take (i := 10) (v := .bool true) (fun _ => trivial) rfl (by kernel_rfl) (fun _ _ _ h => h) (Or.inl ⟨by kernel_rfl, fun X hX => ?_⟩) (lt.out _ ok14_0.out) ?_
  · go_simp
  refine wpAnyHI_take (i := 11) (v := .int .i64 1) (fun _ => trivial) rfl (by kernel_rfl) (fun _ _ _ h => h) (Or.inl ⟨by kernel_rfl, fun X hX => ?_⟩) (lt.out _ ok14_0.out) ?_
  · go_simp
  refine wpAnyHI_take (i := 12) (v := .bool true) (fun _ => trivial) rfl (by kernel_rfl) (fun _ _ _ h => h) (Or.inl ⟨by kernel_rfl, fun X hX => ?_⟩) (lt.out _ ok14_0.out) ?_
  · go_simp
  refine wpAnyHI_take (i := 13) (v := .bool true) (fun _ => trivial) rfl (by kernel_rfl) (fun _ _ _ h => h) (Or.inl ⟨by kernel_rfl, fun X hX => ?_⟩) (lt.out _ ok14_0.out) ?_
  · go_simp
  refine wpAnyHI_take (i := 14) (v := .bool true) (fun _ => trivial) rfl (by kernel_rfl) (fun _ _ _ h => h) (Or.inl ⟨by kernel_rfl, fun X hX => ?_⟩) (lt.out _ ok14_0.out) ?_
  · go_simp
  refine wpAnyHI_take (i := 15) (v := .agg #[.int .i64 60, .int .i64 73]) (fun _ => trivial) rfl (by kernel_rfl) (fun _ _ _ h => h) (Or.inl ⟨by kernel_rfl, fun X hX => ?_⟩) (lt.out _ ok14_0.out) ?_
  · have y0 : X.cell? ⟨w4.heap.size, 0, none⟩ = some (.int .i64 60) := (blk_cell ((ls.out X hX).held 6 _ rfl) 0).trans rfl; have y1 : X.cell? ⟨w4.heap.size, 1, none⟩ = some (.int .i64 73) := (blk_cell ((ls.out X hX).held 6 _ rfl) 1).trans rfl; go_simp
  refine wpAnyHI_one (i := 16) (fun _ => trivial) rfl (by kernel_rfl) (fun K' hK' => ?_)
  rw [if_pos (by kernel_rfl)]
  go_simp
  refine ⟨trivial, (callsIn_wide.2 (quietuslaw14_when.calls 60 73 60 73 _ rfl)).mono ?_⟩
  rintro e Y14_1 ⟨rfl, hb⟩
  dsimp only
  have ok14_1 := Aside0.mk (ok14_0.out.step hb)
  refine hK' _ _ (lt.out _ ok14_1.out) ?_
  clear hK' K' hb
  refine wpAnyHI_take (i := 17) (v := .bool true) (fun _ => trivial) rfl (by kernel_rfl) (fun _ _ _ h => h) (Or.inl ⟨by kernel_rfl, fun X hX => ?_⟩) (lt.out _ ok14_1.out) ?_
  · have e56 := fun (d : Nat) (W_ : World) => eqA56 d W_ (60) (73) (60) (73); go_simp
  refine wpAnyHI_take (i := 18) (v := .bool true) (fun _ => trivial) rfl (by kernel_rfl) (fun _ _ _ h => h) (Or.inl ⟨by kernel_rfl, fun X hX => ?_⟩) (lt.out _ ok14_1.out) ?_
  · go_simp
  refine wpAnyHI_take (i := 19) (v := .bool true) (fun _ => trivial) rfl (by kernel_rfl) (fun _ _ _ h => h) (Or.inl ⟨by kernel_rfl, fun X hX => ?_⟩) (lt.out _ ok14_1.out) ?_
  · go_simp
  refine wpAnyHI_take (i := 20) (v := .agg #[.int .i64 37, .int .i64 50]) (fun _ => trivial) rfl (by kernel_rfl) (fun _ _ _ h => h) (Or.inl ⟨by kernel_rfl, fun X hX => ?_⟩) (lt.out _ ok14_1.out) ?_
  · have y0 : X.cell? ⟨w5.heap.size, 0, none⟩ = some (.int .i64 37) := (blk_cell ((ls.out X hX).held 5 _ rfl) 0).trans rfl; have y1 : X.cell? ⟨w5.heap.size, 1, none⟩ = some (.int .i64 50) := (blk_cell ((ls.out X hX).held 5 _ rfl) 1).trans rfl; go_simp
  refine wpAnyHI_one (i := 21) (fun _ => trivial) rfl (by kernel_rfl) (fun K' hK' => ?_)
  rw [if_pos (by kernel_rfl)]
  go_simp
  refine ⟨trivial, (callsIn_wide.2 (quietuslaw14_when.calls 37 50 37 50 _ rfl)).mono ?_⟩
  rintro e Y14_2 ⟨rfl, hb⟩
  dsimp only
  have ok14_2 := Aside0.mk (ok14_1.out.step hb)
  refine hK' _ _ (lt.out _ ok14_2.out) ?_
  clear hK' K' hb
  refine wpAnyHI_take (i := 22) (v := .bool true) (fun _ => trivial) rfl (by kernel_rfl) (fun _ _ _ h => h) (Or.inl ⟨by kernel_rfl, fun X hX => ?_⟩) (lt.out _ ok14_2.out) ?_
  · have e56 := fun (d : Nat) (W_ : World) => eqA56 d W_ (37) (50) (37) (50); go_simp
  refine wpAnyHI_take (i := 23) (v := .bool true) (fun _ => trivial) rfl (by kernel_rfl) (fun _ _ _ h => h) (Or.inl ⟨by kernel_rfl, fun X hX => ?_⟩) (lt.out _ ok14_2.out) ?_
  · go_simp
  refine wpAnyHI_take (i := 24) (v := .bool true) (fun _ => trivial) rfl (by kernel_rfl) (fun _ _ _ h => h) (Or.inl ⟨by kernel_rfl, fun X hX => ?_⟩) (lt.out _ ok14_2.out) ?_
  · go_simp
  refine wpAnyHI_take (i := 25) (v := .agg #[.int .i64 49, .int .i64 61]) (fun _ => trivial) rfl (by kernel_rfl) (fun _ _ _ h => h) (Or.inl ⟨by kernel_rfl, fun X hX => ?_⟩) (lt.out _ ok14_2.out) ?_
  · have y0 : X.cell? ⟨w6.heap.size, 0, none⟩ = some (.int .i64 49) := (blk_cell ((ls.out X hX).held 4 _ rfl) 0).trans rfl; have y1 : X.cell? ⟨w6.heap.size, 1, none⟩ = some (.int .i64 61) := (blk_cell ((ls.out X hX).held 4 _ rfl) 1).trans rfl; go_simp
  refine wpAnyHI_one (i := 26) (fun _ => trivial) rfl (by kernel_rfl) (fun K' hK' => ?_)
  rw [if_pos (by kernel_rfl)]
  go_simp
  refine ⟨trivial, (callsIn_wide.2 (quietuslaw14_when.calls 49 61 49 61 _ rfl)).mono ?_⟩
  rintro e Y14_3 ⟨rfl, hb⟩
  dsimp only
  have ok14_3 := Aside0.mk (ok14_2.out.step hb)
  refine hK' _ _ (lt.out _ ok14_3.out) ?_
  clear hK' K' hb
  refine wpAnyHI_take (i := 27) (v := .bool true) (fun _ => trivial) rfl (by kernel_rfl) (fun _ _ _ h => h) (Or.inl ⟨by kernel_rfl, fun X hX => ?_⟩) (lt.out _ ok14_3.out) ?_
  · have e56 := fun (d : Nat) (W_ : World) => eqA56 d W_ (49) (61) (49) (61); go_simp
  refine wpAnyHI_take (i := 28) (v := .bool true) (fun _ => trivial) rfl (by kernel_rfl) (fun _ _ _ h => h) (Or.inl ⟨by kernel_rfl, fun X hX => ?_⟩) (lt.out _ ok14_3.out) ?_
  · go_simp
  refine wpAnyHI_take (i := 29) (v := .bool true) (fun _ => trivial) rfl (by kernel_rfl) (fun _ _ _ h => h) (Or.inl ⟨by kernel_rfl, fun X hX => ?_⟩) (lt.out _ ok14_3.out) ?_
  · go_simp
  refine wpAnyHI_take (i := 30) (v := .int .i64 111) (fun _ => trivial) rfl (by kernel_rfl) (fun _ _ _ h => h) (Or.inl ⟨by kernel_rfl, fun X hX => ?_⟩) (lt.out _ ok14_3.out) ?_
  · go_simp
  refine wpAnyHI_take (i := 31) (v := .bool true) (fun _ => trivial) rfl (by kernel_rfl) (fun _ _ _ h => h) (Or.inl ⟨by kernel_rfl, fun X hX => ?_⟩) (lt.out _ ok14_3.out) ?_
  · go_simp
  refine wpAnyHI_take (i := 32) (v := .bool true) (fun _ => trivial) rfl (by kernel_rfl) (fun _ _ _ h => h) (Or.inl ⟨by kernel_rfl, fun X hX => ?_⟩) (lt.out _ ok14_3.out) ?_
  · go_simp
  refine wpAnyHI_take (i := 33) (v := .bool true) (fun _ => trivial) rfl (by kernel_rfl) (fun _ _ _ h => h) (Or.inl ⟨by kernel_rfl, fun X hX => ?_⟩) (lt.out _ ok14_3.out) ?_
  · go_simp
  refine wpAnyHI_take (i := 34) (v := .int .i64 111) (fun _ => trivial) rfl (by kernel_rfl) (fun _ _ _ h => h) (Or.inl ⟨by kernel_rfl, fun X hX => ?_⟩) (lt.out _ ok14_3.out) ?_
  · go_simp
  refine wpAnyHI_take (i := 35) (v := .bool true) (fun _ => trivial) rfl (by kernel_rfl) (fun _ _ _ h => h) (Or.inl ⟨by kernel_rfl, fun X hX => ?_⟩) (lt.out _ ok14_3.out) ?_
  · go_simp
  refine wpAnyHI_take (i := 36) (v := .bool true) (fun _ => trivial) rfl (by kernel_rfl) (fun _ _ _ h => h) (Or.inl ⟨by kernel_rfl, fun X hX => ?_⟩) (lt.out _ ok14_3.out) ?_
  · go_simp
  refine wpAnyHI_take (i := 37) (v := .bool true) (fun _ => trivial) rfl (by kernel_rfl) (fun _ _ _ h => h) (Or.inl ⟨by kernel_rfl, fun X hX => ?_⟩) (lt.out _ ok14_3.out) ?_
  · go_simp
  refine wpAnyHI_done (by kernel_rfl) ?_ _
  go_simp
  have ok15 := ok14_3
  clear okr ls lt hmix
  have hgt9 : w14.heap.size < Y14_3.heap.size := blk_lt (ok15.out.held 0 _ rfl)
  have hz9_0 : Y14_3.cell? ⟨w14.heap.size, 0, none⟩ = some (.int .i64 4) := (blk_cell (ok15.out.held 0 _ rfl) 0).trans rfl
  have hz9_1 : Y14_3.cell? ⟨w14.heap.size, 1, none⟩ = some (.int .i64 5) := (blk_cell (ok15.out.held 0 _ rfl) 1).trans rfl
  have hgt8 : g9 < Y14_3.heap.size := blk_lt (ok15.out.held 1 _ rfl)
  have hz8_0 : Y14_3.cell? ⟨g9, 0, none⟩ = some (.int .i64 109) := (blk_cell (ok15.out.held 1 _ rfl) 0).trans rfl
  have hz8_1 : Y14_3.cell? ⟨g9, 1, none⟩ = some (.int .i64 55) := (blk_cell (ok15.out.held 1 _ rfl) 1).trans rfl
  have hz8_2 : Y14_3.cell? ⟨g9, 2, none⟩ = some (.int .i64 68) := (blk_cell (ok15.out.held 1 _ rfl) 2).trans rfl
  have hgt7 : g8 < Y14_3.heap.size := blk_lt (ok15.out.held 2 _ rfl)
  have hz7_0 : Y14_3.cell? ⟨g8, 0, none⟩ = some (.int .i64 0) := (blk_cell (ok15.out.held 2 _ rfl) 0).trans rfl
  have hz7_1 : Y14_3.cell? ⟨g8, 1, none⟩ = some (.slice A8 0 c8) := (blk_cell (ok15.out.held 2 _ rfl) 1).trans rfl
  have hgt6 : g7 < Y14_3.heap.size := blk_lt (ok15.out.held 3 _ rfl)
  have hz6_0 : Y14_3.cell? ⟨g7, 0, none⟩ = some (.int .i64 100000) := (blk_cell (ok15.out.held 3 _ rfl) 0).trans rfl
  have hz6_1 : Y14_3.cell? ⟨g7, 1, none⟩ = some (.slice A7 2 c7) := (blk_cell (ok15.out.held 3 _ rfl) 1).trans rfl
  have hgt5 : w6.heap.size < Y14_3.heap.size := blk_lt (ok15.out.held 4 _ rfl)
  have hz5_0 : Y14_3.cell? ⟨w6.heap.size, 0, none⟩ = some (.int .i64 49) := (blk_cell (ok15.out.held 4 _ rfl) 0).trans rfl
  have hz5_1 : Y14_3.cell? ⟨w6.heap.size, 1, none⟩ = some (.int .i64 61) := (blk_cell (ok15.out.held 4 _ rfl) 1).trans rfl
  have hgt4 : w5.heap.size < Y14_3.heap.size := blk_lt (ok15.out.held 5 _ rfl)
  have hz4_0 : Y14_3.cell? ⟨w5.heap.size, 0, none⟩ = some (.int .i64 37) := (blk_cell (ok15.out.held 5 _ rfl) 0).trans rfl
  have hz4_1 : Y14_3.cell? ⟨w5.heap.size, 1, none⟩ = some (.int .i64 50) := (blk_cell (ok15.out.held 5 _ rfl) 1).trans rfl
  have hgt3 : w4.heap.size < Y14_3.heap.size := blk_lt (ok15.out.held 6 _ rfl)
  have hz3_0 : Y14_3.cell? ⟨w4.heap.size, 0, none⟩ = some (.int .i64 60) := (blk_cell (ok15.out.held 6 _ rfl) 0).trans rfl
  have hz3_1 : Y14_3.cell? ⟨w4.heap.size, 1, none⟩ = some (.int .i64 73) := (blk_cell (ok15.out.held 6 _ rfl) 1).trans rfl
  have hgt2 : w1.heap.size + 1 < Y14_3.heap.size := blk_lt (ok15.out.held 7 _ rfl)
  have hz2_0 : Y14_3.cell? ⟨w1.heap.size + 1, 0, none⟩ = some (.int .i64 100000) := (blk_cell (ok15.out.held 7 _ rfl) 0).trans rfl
  have hz2_1 : Y14_3.cell? ⟨w1.heap.size + 1, 1, none⟩ = some (.slice (some ⟨w1.heap.size, 0, none⟩) 1 1) := (blk_cell (ok15.out.held 7 _ rfl) 1).trans rfl
  have hgt1 : w1.heap.size < Y14_3.heap.size := blk_lt (ok15.out.held 8 _ rfl)
  have hz1_0 : Y14_3.cell? ⟨w1.heap.size, 0, none⟩ = some (.int .i64 100) := (blk_cell (ok15.out.held 8 _ rfl) 0).trans rfl
  have hz1_1 : Y14_3.cell? ⟨w1.heap.size, 1, none⟩ = some (.int .i64 50) := (blk_cell (ok15.out.held 8 _ rfl) 1).trans rfl
  have hz1_2 : Y14_3.cell? ⟨w1.heap.size, 2, none⟩ = some (.int .i64 60) := (blk_cell (ok15.out.held 8 _ rfl) 2).trans rfl
  obtain ⟨ad, hA, -⟩ := at_T58 HC7.out 1 (by decide) (by decide)
  subst hA
  go_wp2_with fail
  have okr := Aside0.mk (ok15.out)
  clear hgt9 hz9_0 hz9_1 hgt8 hz8_0 hz8_1 hz8_2 hgt7 hz7_0 hz7_1 hgt6 hz6_0 hz6_1 hgt5 hz5_0 hz5_1 hgt4 hz4_0 hz4_1 hgt3 hz3_0 hz3_1 hgt2 hz2_0 hz2_1 hgt1 hz1_0 hz1_1 hz1_2
  refine (wpIn_wide (n := 3)).1 ?_
  obtain ⟨S, hSdef⟩ : ∃ S : World → Prop, S = fun X => San14.Ok w X [(w14.heap.size, Obj.cells #[.int .i64 4, .int .i64 5] 56 (0, 0)), (g9, Obj.cells #[.int .i64 109, .int .i64 55, .int .i64 68] 58 (0, 0)), (g8, Obj.cells #[.int .i64 0, .slice A8 0 c8] 54 (0, 0)), (g7, Obj.cells #[.int .i64 100000, .slice (some ad) 2 c7] 54 (0, 0)), (w6.heap.size, Obj.cells #[.int .i64 49, .int .i64 61] 56 (0, 0)), (w5.heap.size, Obj.cells #[.int .i64 37, .int .i64 50] 56 (0, 0)), (w4.heap.size, Obj.cells #[.int .i64 60, .int .i64 73] 56 (0, 0)), (w1.heap.size + 1, Obj.cells #[.int .i64 100000, .slice (some ⟨w1.heap.size, 0, none⟩) 1 1] 54 (0, 0)), (w1.heap.size, Obj.cells #[.int .i64 100, .int .i64 50, .int .i64 60] 58 (0, 0))] [w7] := ⟨_, rfl⟩
  have ls : Aside0 (∀ X, S X → San14.Ok w X [(w14.heap.size, Obj.cells #[.int .i64 4, .int .i64 5] 56 (0, 0)), (g9, Obj.cells #[.int .i64 109, .int .i64 55, .int .i64 68] 58 (0, 0)), (g8, Obj.cells #[.int .i64 0, .slice A8 0 c8] 54 (0, 0)), (g7, Obj.cells #[.int .i64 100000, .slice (some ad) 2 c7] 54 (0, 0)), (w6.heap.size, Obj.cells #[.int .i64 49, .int .i64 61] 56 (0, 0)), (w5.heap.size, Obj.cells #[.int .i64 37, .int .i64 50] 56 (0, 0)), (w4.heap.size, Obj.cells #[.int .i64 60, .int .i64 73] 56 (0, 0)), (w1.heap.size + 1, Obj.cells #[.int .i64 100000, .slice (some ⟨w1.heap.size, 0, none⟩) 1 1] 54 (0, 0)), (w1.heap.size, Obj.cells #[.int .i64 100, .int .i64 50, .int .i64 60] 58 (0, 0))] [w7]) := ⟨fun X h => by rw [hSdef] at h; exact h⟩
  have lt : Aside0 (∀ X, San14.Ok w X [(w14.heap.size, Obj.cells #[.int .i64 4, .int .i64 5] 56 (0, 0)), (g9, Obj.cells #[.int .i64 109, .int .i64 55, .int .i64 68] 58 (0, 0)), (g8, Obj.cells #[.int .i64 0, .slice A8 0 c8] 54 (0, 0)), (g7, Obj.cells #[.int .i64 100000, .slice (some ad) 2 c7] 54 (0, 0)), (w6.heap.size, Obj.cells #[.int .i64 49, .int .i64 61] 56 (0, 0)), (w5.heap.size, Obj.cells #[.int .i64 37, .int .i64 50] 56 (0, 0)), (w4.heap.size, Obj.cells #[.int .i64 60, .int .i64 73] 56 (0, 0)), (w1.heap.size + 1, Obj.cells #[.int .i64 100000, .slice (some ⟨w1.heap.size, 0, none⟩) 1 1] 54 (0, 0)), (w1.heap.size, Obj.cells #[.int .i64 100, .int .i64 50, .int .i64 60] 58 (0, 0))] [w7] → S X) := ⟨fun X h => by rw [hSdef]; exact h⟩
  have hmix : Try.prog.follows .mixedOrders = true := by kernel_rfl
  have ok15_0 := Aside0.mk (okr.out.step (below_drew (Below.refl _ _)))
  clear hSdef
  refine wpIn_region_held S 24 hmix ?_
  refine wpAnyHI_take (i := 0) (v := .pointer (some ⟨g7, 1, none⟩)) (fun _ => trivial) rfl (by kernel_rfl) (fun _ _ _ h => h) (Or.inl ⟨by kernel_rfl, fun X hX => ?_⟩) (lt.out _ ok15_0.out) ?_
  · go_simp
  refine wpAnyHI_take (i := 1) (v := .slice (some ad) 2 c7) (fun _ => trivial) rfl (by kernel_rfl) (fun _ _ _ h => h) (Or.inl ⟨by kernel_rfl, fun X hX => ?_⟩) (lt.out _ ok15_0.out) ?_
  · have y0 : X.cell? ⟨g7, 0, none⟩ = some (.int .i64 100000) := (blk_cell ((ls.out X hX).held 3 _ rfl) 0).trans rfl; have y1 : X.cell? ⟨g7, 1, none⟩ = some (.slice (some ad) 2 c7) := (blk_cell ((ls.out X hX).held 3 _ rfl) 1).trans rfl; go_simp
  refine wpAnyHI_take (i := 2) (v := .int .i64 2) (fun _ => trivial) rfl (by kernel_rfl) (fun _ _ _ h => h) (Or.inl ⟨by kernel_rfl, fun X hX => ?_⟩) (lt.out _ ok15_0.out) ?_
  · go_simp
  refine wpAnyHI_take (i := 3) (v := .bool true) (fun _ => trivial) rfl (by kernel_rfl) (fun _ _ _ h => h) (Or.inl ⟨by kernel_rfl, fun X hX => ?_⟩) (lt.out _ ok15_0.out) ?_
  · go_simp
  refine wpAnyHI_take (i := 4) (v := .bool true) (fun _ => trivial) rfl (by kernel_rfl) (fun _ _ _ h => h) (Or.inl ⟨by kernel_rfl, fun X hX => ?_⟩) (lt.out _ ok15_0.out) ?_
  · go_simp
  refine wpAnyHI_take (i := 5) (v := .pointer (some ⟨g7, 1, none⟩)) (fun _ => trivial) rfl (by kernel_rfl) (fun _ _ _ h => h) (Or.inl ⟨by kernel_rfl, fun X hX => ?_⟩) (lt.out _ ok15_0.out) ?_
  · go_simp
  refine wpAnyHI_take (i := 6) (v := .slice (some ad) 2 c7) (fun _ => trivial) rfl (by kernel_rfl) (fun _ _ _ h => h) (Or.inl ⟨by kernel_rfl, fun X hX => ?_⟩) (lt.out _ ok15_0.out) ?_
  · have y0 : X.cell? ⟨g7, 0, none⟩ = some (.int .i64 100000) := (blk_cell ((ls.out X hX).held 3 _ rfl) 0).trans rfl; have y1 : X.cell? ⟨g7, 1, none⟩ = some (.slice (some ad) 2 c7) := (blk_cell ((ls.out X hX).held 3 _ rfl) 1).trans rfl; go_simp
  refine wpAnyHI_take (i := 7) (v := .pointer (some (ad.add 3))) (fun _ => trivial) rfl (by kernel_rfl) (fun _ _ _ h => h) (Or.inl ⟨by kernel_rfl, fun X hX => ?_⟩) (lt.out _ ok15_0.out) ?_
  · go_simp
  refine wpAnyHI_take (i := 8) (v := .agg #[.int .i64 111, .int .i64 70, .int .i64 73]) (fun _ => trivial) rfl (by kernel_rfl) (fun _ _ _ h => h) (Or.inl ⟨by kernel_rfl, fun X hX => ?_⟩) (lt.out _ ok15_0.out) ?_
  · obtain ⟨q0, q1, q2⟩ := San14.row3_ (Kd.C_below HC7.out ((ls.out X hX).ahead 0 _ rfl)); go_simp
  refine wpAnyHI_one (i := 9) (fun _ => trivial) rfl (by kernel_rfl) (fun K' hK' => ?_)
  rw [if_pos (by kernel_rfl)]
  go_simp
  refine ⟨trivial, (callsIn_wide.2 (quietuslaw14_when.calls 70 73 70 73 _ rfl)).mono ?_⟩
  rintro e Y15_1 ⟨rfl, hb⟩
  dsimp only
  have ok15_1 := Aside0.mk (ok15_0.out.step hb)
  refine hK' _ _ (lt.out _ ok15_1.out) ?_
  clear hK' K' hb
  refine wpAnyHI_take (i := 10) (v := .agg #[.int .i64 111, .int .i64 70, .int .i64 73]) (fun _ => trivial) rfl (by kernel_rfl) (fun _ _ _ h => h) (Or.inl ⟨by kernel_rfl, fun X hX => ?_⟩) (lt.out _ ok15_1.out) ?_
  · go_simp
  refine wpAnyHI_take (i := 11) (v := .bool true) (fun _ => trivial) rfl (by kernel_rfl) (fun _ _ _ h => h) (Or.inl ⟨by kernel_rfl, fun X hX => ?_⟩) (lt.out _ ok15_1.out) ?_
  · have e58 := fun (d : Nat) (W_ : World) => eqA58 d W_ 111 111 70 70 73 73 ; go_simp
  refine wpAnyHI_take (i := 12) (v := .bool true) (fun _ => trivial) rfl (by kernel_rfl) (fun _ _ _ h => h) (Or.inl ⟨by kernel_rfl, fun X hX => ?_⟩) (lt.out _ ok15_1.out) ?_
  · go_simp
  refine wpAnyHI_take (i := 13) (v := .bool true) (fun _ => trivial) rfl (by kernel_rfl) (fun _ _ _ h => h) (Or.inl ⟨by kernel_rfl, fun X hX => ?_⟩) (lt.out _ ok15_1.out) ?_
  · go_simp
  refine wpAnyHI_take (i := 14) (v := .int .i64 24) (fun _ => trivial) rfl (by kernel_rfl) (fun _ _ _ h => h) (Or.inl ⟨by kernel_rfl, fun X hX => ?_⟩) (lt.out _ ok15_1.out) ?_
  · go_simp
  refine wpAnyHI_take (i := 15) (v := .bool true) (fun _ => trivial) rfl (by kernel_rfl) (fun _ _ _ h => h) (Or.inl ⟨by kernel_rfl, fun X hX => ?_⟩) (lt.out _ ok15_1.out) ?_
  · go_simp
  refine wpAnyHI_take (i := 16) (v := .bool true) (fun _ => trivial) rfl (by kernel_rfl) (fun _ _ _ h => h) (Or.inl ⟨by kernel_rfl, fun X hX => ?_⟩) (lt.out _ ok15_1.out) ?_
  · go_simp
  refine wpAnyHI_take (i := 17) (v := .bool true) (fun _ => trivial) rfl (by kernel_rfl) (fun _ _ _ h => h) (Or.inl ⟨by kernel_rfl, fun X hX => ?_⟩) (lt.out _ ok15_1.out) ?_
  · go_simp
  refine wpAnyHI_take (i := 18) (v := .agg #[.int .i64 109, .int .i64 55, .int .i64 68]) (fun _ => trivial) rfl (by kernel_rfl) (fun _ _ _ h => h) (Or.inl ⟨by kernel_rfl, fun X hX => ?_⟩) (lt.out _ ok15_1.out) ?_
  · have y0 : X.cell? ⟨g9, 0, none⟩ = some (.int .i64 109) := (blk_cell ((ls.out X hX).held 1 _ rfl) 0).trans rfl; have y1 : X.cell? ⟨g9, 1, none⟩ = some (.int .i64 55) := (blk_cell ((ls.out X hX).held 1 _ rfl) 1).trans rfl; have y2 : X.cell? ⟨g9, 2, none⟩ = some (.int .i64 68) := (blk_cell ((ls.out X hX).held 1 _ rfl) 2).trans rfl; go_simp
  refine wpAnyHI_one (i := 19) (fun _ => trivial) rfl (by kernel_rfl) (fun K' hK' => ?_)
  rw [if_pos (by kernel_rfl)]
  go_simp
  refine ⟨trivial, (callsIn_wide.2 (quietuslaw14_when.calls 55 68 55 68 _ rfl)).mono ?_⟩
  rintro e Y15_2 ⟨rfl, hb⟩
  dsimp only
  have ok15_2 := Aside0.mk (ok15_1.out.step hb)
  refine hK' _ _ (lt.out _ ok15_2.out) ?_
  clear hK' K' hb
  refine wpAnyHI_take (i := 20) (v := .agg #[.int .i64 109, .int .i64 55, .int .i64 68]) (fun _ => trivial) rfl (by kernel_rfl) (fun _ _ _ h => h) (Or.inl ⟨by kernel_rfl, fun X hX => ?_⟩) (lt.out _ ok15_2.out) ?_
  · go_simp
  refine wpAnyHI_take (i := 21) (v := .bool true) (fun _ => trivial) rfl (by kernel_rfl) (fun _ _ _ h => h) (Or.inl ⟨by kernel_rfl, fun X hX => ?_⟩) (lt.out _ ok15_2.out) ?_
  · have e58 := fun (d : Nat) (W_ : World) => eqA58 d W_ 109 109 55 55 68 68 ; go_simp
  refine wpAnyHI_take (i := 22) (v := .bool true) (fun _ => trivial) rfl (by kernel_rfl) (fun _ _ _ h => h) (Or.inl ⟨by kernel_rfl, fun X hX => ?_⟩) (lt.out _ ok15_2.out) ?_
  · go_simp
  refine wpAnyHI_take (i := 23) (v := .bool true) (fun _ => trivial) rfl (by kernel_rfl) (fun _ _ _ h => h) (Or.inl ⟨by kernel_rfl, fun X hX => ?_⟩) (lt.out _ ok15_2.out) ?_
  · go_simp
  refine wpAnyHI_done (by kernel_rfl) ?_ _
  go_simp
  have ok16 := ok15_2
  clear okr ls lt hmix
  have hgt9 : w14.heap.size < Y15_2.heap.size := blk_lt (ok16.out.held 0 _ rfl)
  have hz9_0 : Y15_2.cell? ⟨w14.heap.size, 0, none⟩ = some (.int .i64 4) := (blk_cell (ok16.out.held 0 _ rfl) 0).trans rfl
  have hz9_1 : Y15_2.cell? ⟨w14.heap.size, 1, none⟩ = some (.int .i64 5) := (blk_cell (ok16.out.held 0 _ rfl) 1).trans rfl
  have hgt8 : g9 < Y15_2.heap.size := blk_lt (ok16.out.held 1 _ rfl)
  have hz8_0 : Y15_2.cell? ⟨g9, 0, none⟩ = some (.int .i64 109) := (blk_cell (ok16.out.held 1 _ rfl) 0).trans rfl
  have hz8_1 : Y15_2.cell? ⟨g9, 1, none⟩ = some (.int .i64 55) := (blk_cell (ok16.out.held 1 _ rfl) 1).trans rfl
  have hz8_2 : Y15_2.cell? ⟨g9, 2, none⟩ = some (.int .i64 68) := (blk_cell (ok16.out.held 1 _ rfl) 2).trans rfl
  have hgt7 : g8 < Y15_2.heap.size := blk_lt (ok16.out.held 2 _ rfl)
  have hz7_0 : Y15_2.cell? ⟨g8, 0, none⟩ = some (.int .i64 0) := (blk_cell (ok16.out.held 2 _ rfl) 0).trans rfl
  have hz7_1 : Y15_2.cell? ⟨g8, 1, none⟩ = some (.slice A8 0 c8) := (blk_cell (ok16.out.held 2 _ rfl) 1).trans rfl
  have hgt6 : g7 < Y15_2.heap.size := blk_lt (ok16.out.held 3 _ rfl)
  have hz6_0 : Y15_2.cell? ⟨g7, 0, none⟩ = some (.int .i64 100000) := (blk_cell (ok16.out.held 3 _ rfl) 0).trans rfl
  have hz6_1 : Y15_2.cell? ⟨g7, 1, none⟩ = some (.slice (some ad) 2 c7) := (blk_cell (ok16.out.held 3 _ rfl) 1).trans rfl
  have hgt5 : w6.heap.size < Y15_2.heap.size := blk_lt (ok16.out.held 4 _ rfl)
  have hz5_0 : Y15_2.cell? ⟨w6.heap.size, 0, none⟩ = some (.int .i64 49) := (blk_cell (ok16.out.held 4 _ rfl) 0).trans rfl
  have hz5_1 : Y15_2.cell? ⟨w6.heap.size, 1, none⟩ = some (.int .i64 61) := (blk_cell (ok16.out.held 4 _ rfl) 1).trans rfl
  have hgt4 : w5.heap.size < Y15_2.heap.size := blk_lt (ok16.out.held 5 _ rfl)
  have hz4_0 : Y15_2.cell? ⟨w5.heap.size, 0, none⟩ = some (.int .i64 37) := (blk_cell (ok16.out.held 5 _ rfl) 0).trans rfl
  have hz4_1 : Y15_2.cell? ⟨w5.heap.size, 1, none⟩ = some (.int .i64 50) := (blk_cell (ok16.out.held 5 _ rfl) 1).trans rfl
  have hgt3 : w4.heap.size < Y15_2.heap.size := blk_lt (ok16.out.held 6 _ rfl)
  have hz3_0 : Y15_2.cell? ⟨w4.heap.size, 0, none⟩ = some (.int .i64 60) := (blk_cell (ok16.out.held 6 _ rfl) 0).trans rfl
  have hz3_1 : Y15_2.cell? ⟨w4.heap.size, 1, none⟩ = some (.int .i64 73) := (blk_cell (ok16.out.held 6 _ rfl) 1).trans rfl
  have hgt2 : w1.heap.size + 1 < Y15_2.heap.size := blk_lt (ok16.out.held 7 _ rfl)
  have hz2_0 : Y15_2.cell? ⟨w1.heap.size + 1, 0, none⟩ = some (.int .i64 100000) := (blk_cell (ok16.out.held 7 _ rfl) 0).trans rfl
  have hz2_1 : Y15_2.cell? ⟨w1.heap.size + 1, 1, none⟩ = some (.slice (some ⟨w1.heap.size, 0, none⟩) 1 1) := (blk_cell (ok16.out.held 7 _ rfl) 1).trans rfl
  have hgt1 : w1.heap.size < Y15_2.heap.size := blk_lt (ok16.out.held 8 _ rfl)
  have hz1_0 : Y15_2.cell? ⟨w1.heap.size, 0, none⟩ = some (.int .i64 100) := (blk_cell (ok16.out.held 8 _ rfl) 0).trans rfl
  have hz1_1 : Y15_2.cell? ⟨w1.heap.size, 1, none⟩ = some (.int .i64 50) := (blk_cell (ok16.out.held 8 _ rfl) 1).trans rfl
  have hz1_2 : Y15_2.cell? ⟨w1.heap.size, 2, none⟩ = some (.int .i64 60) := (blk_cell (ok16.out.held 8 _ rfl) 2).trans rfl
  go_wp2_with fail
  have okr := Aside0.mk (ok16.out)
  clear hgt9 hz9_0 hz9_1 hgt8 hz8_0 hz8_1 hz8_2 hgt7 hz7_0 hz7_1 hgt6 hz6_0 hz6_1 hgt5 hz5_0 hz5_1 hgt4 hz4_0 hz4_1 hgt3 hz3_0 hz3_1 hgt2 hz2_0 hz2_1 hgt1 hz1_0 hz1_1 hz1_2
  refine (wpIn_wide (n := 3)).1 ?_
  obtain ⟨S, hSdef⟩ : ∃ S : World → Prop, S = fun X => San14.Ok w X [(w14.heap.size, Obj.cells #[.int .i64 4, .int .i64 5] 56 (0, 0)), (g9, Obj.cells #[.int .i64 109, .int .i64 55, .int .i64 68] 58 (0, 0)), (g8, Obj.cells #[.int .i64 0, .slice A8 0 c8] 54 (0, 0)), (g7, Obj.cells #[.int .i64 100000, .slice (some ad) 2 c7] 54 (0, 0)), (w6.heap.size, Obj.cells #[.int .i64 49, .int .i64 61] 56 (0, 0)), (w5.heap.size, Obj.cells #[.int .i64 37, .int .i64 50] 56 (0, 0)), (w4.heap.size, Obj.cells #[.int .i64 60, .int .i64 73] 56 (0, 0)), (w1.heap.size + 1, Obj.cells #[.int .i64 100000, .slice (some ⟨w1.heap.size, 0, none⟩) 1 1] 54 (0, 0)), (w1.heap.size, Obj.cells #[.int .i64 100, .int .i64 50, .int .i64 60] 58 (0, 0))] [w7] := ⟨_, rfl⟩
  have ls : Aside0 (∀ X, S X → San14.Ok w X [(w14.heap.size, Obj.cells #[.int .i64 4, .int .i64 5] 56 (0, 0)), (g9, Obj.cells #[.int .i64 109, .int .i64 55, .int .i64 68] 58 (0, 0)), (g8, Obj.cells #[.int .i64 0, .slice A8 0 c8] 54 (0, 0)), (g7, Obj.cells #[.int .i64 100000, .slice (some ad) 2 c7] 54 (0, 0)), (w6.heap.size, Obj.cells #[.int .i64 49, .int .i64 61] 56 (0, 0)), (w5.heap.size, Obj.cells #[.int .i64 37, .int .i64 50] 56 (0, 0)), (w4.heap.size, Obj.cells #[.int .i64 60, .int .i64 73] 56 (0, 0)), (w1.heap.size + 1, Obj.cells #[.int .i64 100000, .slice (some ⟨w1.heap.size, 0, none⟩) 1 1] 54 (0, 0)), (w1.heap.size, Obj.cells #[.int .i64 100, .int .i64 50, .int .i64 60] 58 (0, 0))] [w7]) := ⟨fun X h => by rw [hSdef] at h; exact h⟩
  have lt : Aside0 (∀ X, San14.Ok w X [(w14.heap.size, Obj.cells #[.int .i64 4, .int .i64 5] 56 (0, 0)), (g9, Obj.cells #[.int .i64 109, .int .i64 55, .int .i64 68] 58 (0, 0)), (g8, Obj.cells #[.int .i64 0, .slice A8 0 c8] 54 (0, 0)), (g7, Obj.cells #[.int .i64 100000, .slice (some ad) 2 c7] 54 (0, 0)), (w6.heap.size, Obj.cells #[.int .i64 49, .int .i64 61] 56 (0, 0)), (w5.heap.size, Obj.cells #[.int .i64 37, .int .i64 50] 56 (0, 0)), (w4.heap.size, Obj.cells #[.int .i64 60, .int .i64 73] 56 (0, 0)), (w1.heap.size + 1, Obj.cells #[.int .i64 100000, .slice (some ⟨w1.heap.size, 0, none⟩) 1 1] 54 (0, 0)), (w1.heap.size, Obj.cells #[.int .i64 100, .int .i64 50, .int .i64 60] 58 (0, 0))] [w7] → S X) := ⟨fun X h => by rw [hSdef]; exact h⟩
  have hmix : Try.prog.follows .mixedOrders = true := by kernel_rfl
  have ok16_0 := Aside0.mk (okr.out.step (below_drew (Below.refl _ _)))
  clear hSdef
  refine wpIn_region_held S 36 hmix ?_
  refine wpAnyHI_take (i := 0) (v := .bool true) (fun _ => trivial) rfl (by kernel_rfl) (fun _ _ _ h => h) (Or.inl ⟨by kernel_rfl, fun X hX => ?_⟩) (lt.out _ ok16_0.out) ?_
  · go_simp
  refine wpAnyHI_take (i := 1) (v := .bool true) (fun _ => trivial) rfl (by kernel_rfl) (fun _ _ _ h => h) (Or.inl ⟨by kernel_rfl, fun X hX => ?_⟩) (lt.out _ ok16_0.out) ?_
  · go_simp
  refine wpAnyHI_take (i := 2) (v := .bool true) (fun _ => trivial) rfl (by kernel_rfl) (fun _ _ _ h => h) (Or.inl ⟨by kernel_rfl, fun X hX => ?_⟩) (lt.out _ ok16_0.out) ?_
  · go_simp
  refine wpAnyHI_take (i := 3) (v := .bool true) (fun _ => trivial) rfl (by kernel_rfl) (fun _ _ _ h => h) (Or.inl ⟨by kernel_rfl, fun X hX => ?_⟩) (lt.out _ ok16_0.out) ?_
  · go_simp
  refine wpAnyHI_take (i := 4) (v := .bool true) (fun _ => trivial) rfl (by kernel_rfl) (fun _ _ _ h => h) (Or.inl ⟨by kernel_rfl, fun X hX => ?_⟩) (lt.out _ ok16_0.out) ?_
  · go_simp
  refine wpAnyHI_take (i := 5) (v := .bool true) (fun _ => trivial) rfl (by kernel_rfl) (fun _ _ _ h => h) (Or.inl ⟨by kernel_rfl, fun X hX => ?_⟩) (lt.out _ ok16_0.out) ?_
  · go_simp
  refine wpAnyHI_take (i := 6) (v := .bool true) (fun _ => trivial) rfl (by kernel_rfl) (fun _ _ _ h => h) (Or.inl ⟨by kernel_rfl, fun X hX => ?_⟩) (lt.out _ ok16_0.out) ?_
  · go_simp
  refine wpAnyHI_take (i := 7) (v := .bool true) (fun _ => trivial) rfl (by kernel_rfl) (fun _ _ _ h => h) (Or.inl ⟨by kernel_rfl, fun X hX => ?_⟩) (lt.out _ ok16_0.out) ?_
  · go_simp
  refine wpAnyHI_take (i := 8) (v := .agg #[.int .i64 4, .int .i64 5]) (fun _ => trivial) rfl (by kernel_rfl) (fun _ _ _ h => h) (Or.inl ⟨by kernel_rfl, fun X hX => ?_⟩) (lt.out _ ok16_0.out) ?_
  · have y0 : X.cell? ⟨w14.heap.size, 0, none⟩ = some (.int .i64 4) := (blk_cell ((ls.out X hX).held 0 _ rfl) 0).trans rfl; have y1 : X.cell? ⟨w14.heap.size, 1, none⟩ = some (.int .i64 5) := (blk_cell ((ls.out X hX).held 0 _ rfl) 1).trans rfl; go_simp
  refine wpAnyHI_one (i := 9) (fun _ => trivial) rfl (by kernel_rfl) (fun K' hK' => ?_)
  rw [if_pos (by kernel_rfl)]
  go_simp
  refine ⟨trivial, (callsIn_wide.2 (quietuslaw14_when.calls 4 5 4 5 _ rfl)).mono ?_⟩
  rintro e Y16_1 ⟨rfl, hb⟩
  dsimp only
  have ok16_1 := Aside0.mk (ok16_0.out.step hb)
  refine hK' _ _ (lt.out _ ok16_1.out) ?_
  clear hK' K' hb
  refine wpAnyHI_take (i := 10) (v := .bool true) (fun _ => trivial) rfl (by kernel_rfl) (fun _ _ _ h => h) (Or.inl ⟨by kernel_rfl, fun X hX => ?_⟩) (lt.out _ ok16_1.out) ?_
  · have e56 := fun (d : Nat) (W_ : World) => eqA56 d W_ 4 4 5 5; go_simp
  refine wpAnyHI_take (i := 11) (v := .bool true) (fun _ => trivial) rfl (by kernel_rfl) (fun _ _ _ h => h) (Or.inl ⟨by kernel_rfl, fun X hX => ?_⟩) (lt.out _ ok16_1.out) ?_
  · go_simp
  refine wpAnyHI_take (i := 12) (v := .bool true) (fun _ => trivial) rfl (by kernel_rfl) (fun _ _ _ h => h) (Or.inl ⟨by kernel_rfl, fun X hX => ?_⟩) (lt.out _ ok16_1.out) ?_
  · go_simp
  refine wpAnyHI_one (i := 13) (fun _ => trivial) rfl (by kernel_rfl) (fun K' hK' => ?_)
  rw [if_pos (by kernel_rfl)]
  go_simp
  refine ⟨trivial, (callsIn_wide.2 (quietuslaw14_when.calls 1 2 1 2 _ rfl)).mono ?_⟩
  rintro e Y16_2 ⟨rfl, hb⟩
  dsimp only
  have ok16_2 := Aside0.mk (ok16_1.out.step hb)
  refine hK' _ _ (lt.out _ ok16_2.out) ?_
  clear hK' K' hb
  refine wpAnyHI_one (i := 14) (fun _ => trivial) rfl (by kernel_rfl) (fun K' hK' => ?_)
  rw [if_pos (by kernel_rfl)]
  go_simp
  refine ⟨trivial, (callsIn_wide.2 (quietuslaw14_when.calls 3 4 3 4 _ rfl)).mono ?_⟩
  rintro e Y16_3 ⟨rfl, hb⟩
  dsimp only
  have ok16_3 := Aside0.mk (ok16_2.out.step hb)
  refine hK' _ _ (lt.out _ ok16_3.out) ?_
  clear hK' K' hb
  refine wpAnyHI_one (i := 15) (fun _ => trivial) rfl (by kernel_rfl) (fun K' hK' => ?_)
  rw [if_pos (by kernel_rfl)]
  go_simp
  refine ⟨trivial, (callsIn_wide.2 (clock_Order.calls 1 2 3 4 (-1) _ (by kernel_rfl))).mono ?_⟩
  rintro e Y16_4 ⟨rfl, hb⟩
  dsimp only
  have ok16_4 := Aside0.mk (ok16_3.out.step hb)
  refine hK' _ _ (lt.out _ ok16_4.out) ?_
  clear hK' K' hb
  refine wpAnyHI_take (i := 16) (v := .bool true) (fun _ => trivial) rfl (by kernel_rfl) (fun _ _ _ h => h) (Or.inl ⟨by kernel_rfl, fun X hX => ?_⟩) (lt.out _ ok16_4.out) ?_
  · go_simp
  refine wpAnyHI_take (i := 17) (v := .bool true) (fun _ => trivial) rfl (by kernel_rfl) (fun _ _ _ h => h) (Or.inl ⟨by kernel_rfl, fun X hX => ?_⟩) (lt.out _ ok16_4.out) ?_
  · go_simp
  refine wpAnyHI_take (i := 18) (v := .bool true) (fun _ => trivial) rfl (by kernel_rfl) (fun _ _ _ h => h) (Or.inl ⟨by kernel_rfl, fun X hX => ?_⟩) (lt.out _ ok16_4.out) ?_
  · go_simp
  refine wpAnyHI_one (i := 19) (fun _ => trivial) rfl (by kernel_rfl) (fun K' hK' => ?_)
  rw [if_pos (by kernel_rfl)]
  go_simp
  refine ⟨trivial, (callsIn_wide.2 (quietuslaw14_when.calls 3 4 3 4 _ rfl)).mono ?_⟩
  rintro e Y16_5 ⟨rfl, hb⟩
  dsimp only
  have ok16_5 := Aside0.mk (ok16_4.out.step hb)
  refine hK' _ _ (lt.out _ ok16_5.out) ?_
  clear hK' K' hb
  refine wpAnyHI_one (i := 20) (fun _ => trivial) rfl (by kernel_rfl) (fun K' hK' => ?_)
  rw [if_pos (by kernel_rfl)]
  go_simp
  refine ⟨trivial, (callsIn_wide.2 (quietuslaw14_when.calls 1 2 1 2 _ rfl)).mono ?_⟩
  rintro e Y16_6 ⟨rfl, hb⟩
  dsimp only
  have ok16_6 := Aside0.mk (ok16_5.out.step hb)
  refine hK' _ _ (lt.out _ ok16_6.out) ?_
  clear hK' K' hb
  refine wpAnyHI_one (i := 21) (fun _ => trivial) rfl (by kernel_rfl) (fun K' hK' => ?_)
  rw [if_pos (by kernel_rfl)]
  go_simp
  refine ⟨trivial, (callsIn_wide.2 (clock_Order.calls 3 4 1 2 (1) _ (by kernel_rfl))).mono ?_⟩
  rintro e Y16_7 ⟨rfl, hb⟩
  dsimp only
  have ok16_7 := Aside0.mk (ok16_6.out.step hb)
  refine hK' _ _ (lt.out _ ok16_7.out) ?_
  clear hK' K' hb
  refine wpAnyHI_take (i := 22) (v := .bool true) (fun _ => trivial) rfl (by kernel_rfl) (fun _ _ _ h => h) (Or.inl ⟨by kernel_rfl, fun X hX => ?_⟩) (lt.out _ ok16_7.out) ?_
  · go_simp
  refine wpAnyHI_take (i := 23) (v := .bool true) (fun _ => trivial) rfl (by kernel_rfl) (fun _ _ _ h => h) (Or.inl ⟨by kernel_rfl, fun X hX => ?_⟩) (lt.out _ ok16_7.out) ?_
  · go_simp
  refine wpAnyHI_take (i := 24) (v := .bool true) (fun _ => trivial) rfl (by kernel_rfl) (fun _ _ _ h => h) (Or.inl ⟨by kernel_rfl, fun X hX => ?_⟩) (lt.out _ ok16_7.out) ?_
  · go_simp
  refine wpAnyHI_one (i := 25) (fun _ => trivial) rfl (by kernel_rfl) (fun K' hK' => ?_)
  rw [if_pos (by kernel_rfl)]
  go_simp
  refine ⟨trivial, (callsIn_wide.2 (quietuslaw14_when.calls 1 3 1 3 _ rfl)).mono ?_⟩
  rintro e Y16_8 ⟨rfl, hb⟩
  dsimp only
  have ok16_8 := Aside0.mk (ok16_7.out.step hb)
  refine hK' _ _ (lt.out _ ok16_8.out) ?_
  clear hK' K' hb
  refine wpAnyHI_one (i := 26) (fun _ => trivial) rfl (by kernel_rfl) (fun K' hK' => ?_)
  rw [if_pos (by kernel_rfl)]
  go_simp
  refine ⟨trivial, (callsIn_wide.2 (quietuslaw14_when.calls 3 4 3 4 _ rfl)).mono ?_⟩
  rintro e Y16_9 ⟨rfl, hb⟩
  dsimp only
  have ok16_9 := Aside0.mk (ok16_8.out.step hb)
  refine hK' _ _ (lt.out _ ok16_9.out) ?_
  clear hK' K' hb
  refine wpAnyHI_one (i := 27) (fun _ => trivial) rfl (by kernel_rfl) (fun K' hK' => ?_)
  rw [if_pos (by kernel_rfl)]
  go_simp
  refine ⟨trivial, (callsIn_wide.2 (clock_Order.calls 1 3 3 4 (0) _ (by kernel_rfl))).mono ?_⟩
  rintro e Y16_10 ⟨rfl, hb⟩
  dsimp only
  have ok16_10 := Aside0.mk (ok16_9.out.step hb)
  refine hK' _ _ (lt.out _ ok16_10.out) ?_
  clear hK' K' hb
  refine wpAnyHI_take (i := 28) (v := .bool true) (fun _ => trivial) rfl (by kernel_rfl) (fun _ _ _ h => h) (Or.inl ⟨by kernel_rfl, fun X hX => ?_⟩) (lt.out _ ok16_10.out) ?_
  · go_simp
  refine wpAnyHI_take (i := 29) (v := .bool true) (fun _ => trivial) rfl (by kernel_rfl) (fun _ _ _ h => h) (Or.inl ⟨by kernel_rfl, fun X hX => ?_⟩) (lt.out _ ok16_10.out) ?_
  · go_simp
  refine wpAnyHI_take (i := 30) (v := .bool true) (fun _ => trivial) rfl (by kernel_rfl) (fun _ _ _ h => h) (Or.inl ⟨by kernel_rfl, fun X hX => ?_⟩) (lt.out _ ok16_10.out) ?_
  · go_simp
  refine wpAnyHI_take (i := 31) (v := .agg #[.int .i64 100000, .slice (some ⟨w1.heap.size, 0, none⟩) 1 1]) (fun _ => trivial) rfl (by kernel_rfl) (fun _ _ _ h => h) (Or.inl ⟨by kernel_rfl, fun X hX => ?_⟩) (lt.out _ ok16_10.out) ?_
  · have y0 : X.cell? ⟨w1.heap.size + 1, 0, none⟩ = some (.int .i64 100000) := (blk_cell ((ls.out X hX).held 7 _ rfl) 0).trans rfl; have y1 : X.cell? ⟨w1.heap.size + 1, 1, none⟩ = some (.slice (some ⟨w1.heap.size, 0, none⟩) 1 1) := (blk_cell ((ls.out X hX).held 7 _ rfl) 1).trans rfl; go_simp
  refine wpAnyHI_one (i := 32) (fun _ => trivial) rfl (by kernel_rfl) (fun K' hK' => ?_)
  rw [if_pos (by kernel_rfl)]
  go_simp
  refine ⟨trivial, (callsIn_wide.2 (clock_Check.calls 9 100000 _ 1 ([⟨100, ⟨50, 60⟩⟩] : List S58) 0 _ (San14.row_ (i := 8) ok16_10.out rfl) (by simp) (by kernel_rfl))).mono ?_⟩
  rintro e Y16_11 ⟨rfl, hb⟩
  dsimp only
  have ok16_11 := Aside0.mk (ok16_10.out.step hb)
  refine hK' _ _ (lt.out _ ok16_11.out) ?_
  clear hK' K' hb
  refine wpAnyHI_take (i := 33) (v := .bool true) (fun _ => trivial) rfl (by kernel_rfl) (fun _ _ _ h => h) (Or.inl ⟨by kernel_rfl, fun X hX => ?_⟩) (lt.out _ ok16_11.out) ?_
  · go_simp
  refine wpAnyHI_take (i := 34) (v := .bool true) (fun _ => trivial) rfl (by kernel_rfl) (fun _ _ _ h => h) (Or.inl ⟨by kernel_rfl, fun X hX => ?_⟩) (lt.out _ ok16_11.out) ?_
  · go_simp
  refine wpAnyHI_take (i := 35) (v := .bool true) (fun _ => trivial) rfl (by kernel_rfl) (fun _ _ _ h => h) (Or.inl ⟨by kernel_rfl, fun X hX => ?_⟩) (lt.out _ ok16_11.out) ?_
  · go_simp
  refine wpAnyHI_done (by kernel_rfl) ?_ _
  go_simp
  have ok17 := ok16_11
  clear okr ls lt hmix
  have hgt9 : w14.heap.size < Y16_11.heap.size := blk_lt (ok17.out.held 0 _ rfl)
  have hz9_0 : Y16_11.cell? ⟨w14.heap.size, 0, none⟩ = some (.int .i64 4) := (blk_cell (ok17.out.held 0 _ rfl) 0).trans rfl
  have hz9_1 : Y16_11.cell? ⟨w14.heap.size, 1, none⟩ = some (.int .i64 5) := (blk_cell (ok17.out.held 0 _ rfl) 1).trans rfl
  have hgt8 : g9 < Y16_11.heap.size := blk_lt (ok17.out.held 1 _ rfl)
  have hz8_0 : Y16_11.cell? ⟨g9, 0, none⟩ = some (.int .i64 109) := (blk_cell (ok17.out.held 1 _ rfl) 0).trans rfl
  have hz8_1 : Y16_11.cell? ⟨g9, 1, none⟩ = some (.int .i64 55) := (blk_cell (ok17.out.held 1 _ rfl) 1).trans rfl
  have hz8_2 : Y16_11.cell? ⟨g9, 2, none⟩ = some (.int .i64 68) := (blk_cell (ok17.out.held 1 _ rfl) 2).trans rfl
  have hgt7 : g8 < Y16_11.heap.size := blk_lt (ok17.out.held 2 _ rfl)
  have hz7_0 : Y16_11.cell? ⟨g8, 0, none⟩ = some (.int .i64 0) := (blk_cell (ok17.out.held 2 _ rfl) 0).trans rfl
  have hz7_1 : Y16_11.cell? ⟨g8, 1, none⟩ = some (.slice A8 0 c8) := (blk_cell (ok17.out.held 2 _ rfl) 1).trans rfl
  have hgt6 : g7 < Y16_11.heap.size := blk_lt (ok17.out.held 3 _ rfl)
  have hz6_0 : Y16_11.cell? ⟨g7, 0, none⟩ = some (.int .i64 100000) := (blk_cell (ok17.out.held 3 _ rfl) 0).trans rfl
  have hz6_1 : Y16_11.cell? ⟨g7, 1, none⟩ = some (.slice (some ad) 2 c7) := (blk_cell (ok17.out.held 3 _ rfl) 1).trans rfl
  have hgt5 : w6.heap.size < Y16_11.heap.size := blk_lt (ok17.out.held 4 _ rfl)
  have hz5_0 : Y16_11.cell? ⟨w6.heap.size, 0, none⟩ = some (.int .i64 49) := (blk_cell (ok17.out.held 4 _ rfl) 0).trans rfl
  have hz5_1 : Y16_11.cell? ⟨w6.heap.size, 1, none⟩ = some (.int .i64 61) := (blk_cell (ok17.out.held 4 _ rfl) 1).trans rfl
  have hgt4 : w5.heap.size < Y16_11.heap.size := blk_lt (ok17.out.held 5 _ rfl)
  have hz4_0 : Y16_11.cell? ⟨w5.heap.size, 0, none⟩ = some (.int .i64 37) := (blk_cell (ok17.out.held 5 _ rfl) 0).trans rfl
  have hz4_1 : Y16_11.cell? ⟨w5.heap.size, 1, none⟩ = some (.int .i64 50) := (blk_cell (ok17.out.held 5 _ rfl) 1).trans rfl
  have hgt3 : w4.heap.size < Y16_11.heap.size := blk_lt (ok17.out.held 6 _ rfl)
  have hz3_0 : Y16_11.cell? ⟨w4.heap.size, 0, none⟩ = some (.int .i64 60) := (blk_cell (ok17.out.held 6 _ rfl) 0).trans rfl
  have hz3_1 : Y16_11.cell? ⟨w4.heap.size, 1, none⟩ = some (.int .i64 73) := (blk_cell (ok17.out.held 6 _ rfl) 1).trans rfl
  have hgt2 : w1.heap.size + 1 < Y16_11.heap.size := blk_lt (ok17.out.held 7 _ rfl)
  have hz2_0 : Y16_11.cell? ⟨w1.heap.size + 1, 0, none⟩ = some (.int .i64 100000) := (blk_cell (ok17.out.held 7 _ rfl) 0).trans rfl
  have hz2_1 : Y16_11.cell? ⟨w1.heap.size + 1, 1, none⟩ = some (.slice (some ⟨w1.heap.size, 0, none⟩) 1 1) := (blk_cell (ok17.out.held 7 _ rfl) 1).trans rfl
  have hgt1 : w1.heap.size < Y16_11.heap.size := blk_lt (ok17.out.held 8 _ rfl)
  have hz1_0 : Y16_11.cell? ⟨w1.heap.size, 0, none⟩ = some (.int .i64 100) := (blk_cell (ok17.out.held 8 _ rfl) 0).trans rfl
  have hz1_1 : Y16_11.cell? ⟨w1.heap.size, 1, none⟩ = some (.int .i64 50) := (blk_cell (ok17.out.held 8 _ rfl) 1).trans rfl
  have hz1_2 : Y16_11.cell? ⟨w1.heap.size, 2, none⟩ = some (.int .i64 60) := (blk_cell (ok17.out.held 8 _ rfl) 2).trans rfl
  go_wp2_with fail
  go_ret
  exact ⟨rfl, ok17.out.hb⟩
end Go.Proofs.Yteknbadjfojmbaa.QA
