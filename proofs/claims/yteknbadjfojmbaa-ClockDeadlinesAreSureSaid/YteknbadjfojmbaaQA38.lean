-- What this claim does not use was left out by prune.py, a program of this session.
import Derived.Test.YteknbadjfojmbaaQA0
import Derived.Test.YteknbadjfojmbaaQA22
import Derived.Test.YteknbadjfojmbaaQA25
import Derived.Test.YteknbadjfojmbaaQA26
import Derived.Test.YteknbadjfojmbaaQA27
import Derived.Test.YteknbadjfojmbaaQA36
import Derived.Test.YteknbadjfojmbaaQA37
namespace Go.Proofs.Yteknbadjfojmbaa.QA
open Go.RowKit Go.Proofs.YteknbadjfojmbaaW.PrintWords Go.Proofs.YteknbadjfojmbaaW.PrintLast Go.Proofs.YteknbadjfojmbaaW.PrintMore
attribute [local go_sem] max2_int min2_int max_two min_two max_three min_three max_four min_four
set_option linter.unusedVariables false
set_option linter.unusedSimpArgs false
def holds.run (k : Nat) : Int → Int → Int → List S58 → List S105 → Option Bool
  | _, _, _, _, [] => some true
  | now, value, rate, rs, s :: ss => (quietuslaw14_moment_goOn.f k now value rate rs s.f0 s.f1 s.f2 s.f3 s.f4).bind fun t =>
      if t.2.2.2.2 = true ∧ 0 ≤ t.2.1 ∧ t.2.1 ≤ 1000000000000000 then (quietusref14_Check.f k t.2.2.1 t.2.2.2.1).bind fun e => if e = 0 then (clock_Now.f k t.2.2.1 t.2.2.2.1 (t.2.1 / 1000000)).bind fun q =>
        if q.2.2 = 0 ∧ q.1 ≤ t.1 ∧ t.1 ≤ q.2.1 then holds.run k t.1 t.2.1 t.2.2.1 t.2.2.2.1 ss else none else none else none
theorem HdOk.two2 {w W : World} {l : List (Nat × Obj)} (h : HdOk w W l) {i j : Nat} {p q : Nat × Obj} (hij : i < j) (hi : l[i]? = some p) (hj : l[j]? = some q) : HdOk w W [p, q] := by
  have g : ∀ (a : Nat) (x : Nat × Obj), [p, q][a]? = some x → a = 0 ∧ x = p ∨ a = 1 ∧ x = q := by
    intro a x hx
    match a with
    | 0 => exact .inl ⟨rfl, (Option.some.inj hx).symm⟩
    | 1 => exact .inr ⟨rfl, (Option.some.inj hx).symm⟩
    | a + 2 => simp at hx
  refine ⟨h.hb, fun a x hx => ?_, fun a x hx => ?_, fun a b x y hab hx hy => ?_⟩
  · rcases g a x hx with ⟨_, rfl⟩ | ⟨_, rfl⟩
    · exact h.held i _ hi
    · exact h.held j _ hj
  · rcases g a x hx with ⟨_, rfl⟩ | ⟨_, rfl⟩
    · exact h.new i _ hi
    · exact h.new j _ hj
  · rcases g a x hx with ⟨e1, rfl⟩ | ⟨e1, rfl⟩ <;> rcases g b y hy with ⟨e2, rfl⟩ | ⟨e2, rfl⟩
    · omega
    · exact h.dec i j _ _ hij hi hj
    · omega
    · omega
def sure.ask (k : Nat) (now value rate : Int) (rs : List S58) (x : Int) : Option Bool :=
  if now + x < 0 then some true else
    (clock_Latest.f k rate rs (now + x)).bind fun a => (clock_Earliest.f k rate rs (now + x)).bind fun b =>
      if (a.2 = 0 ∨ a.2 = 8) ∧ (b.2 = 0 ∨ b.2 = 8) ∧ (a.2 = 0 → value / 1000000 ≤ a.1 → now ≤ now + x) ∧ (b.2 = 0 → b.1 ≤ value / 1000000 → now + x ≤ now) then some true else none
def sure.run (k : Nat) : Int → Int → Int → List S58 → List S105 → List Int → Option Bool
  | _, _, _, _, [], _ => some true
  | now, value, rate, rs, s :: ss, xs => (quietuslaw14_moment_goOn.f k now value rate rs s.f0 s.f1 s.f2 s.f3 s.f4).bind fun t =>
      if t.2.2.2.2 = true ∧ (0 ≤ t.2.1 ∧ t.2.1 ≤ 1000000000000000) ∧ 0 ≤ t.1 ∧ t.1 ≤ 1000000000 then
        (match xs with | [] => some true | x :: _ => if -32768 ≤ x ∧ x ≤ 32767 then sure.ask k t.1 t.2.1 t.2.2.1 t.2.2.2.1 x else none).bind fun _ => sure.run k t.1 t.2.1 t.2.2.1 t.2.2.2.1 ss (xs.drop 1) else none
def quietuslaw14_ClockDeadlinesAreSure.f (k : Nat) (a0_0 a0_1 : Int) (l0_2 : List S105) (l1 : List Int) : Option Bool :=
  if 30 < l0_2.length then some true else (quietuslaw14_begun.f a0_0 a0_1 l0_2).bind fun b => sure.run k b.1 b.2.1 b.2.2.1 b.2.2.2 l0_2 l1
set_option maxRecDepth 100000 in
set_option maxHeartbeats 1600000 in
theorem quietuslaw14_ClockDeadlinesAreSure.calls (k : Nat) (a0_0 : Int) (a0_1 : Int) (A0_2 : Option Addr) (c0_2 : Nat) (l0_2 : List (S105)) (A1 : Option Addr) (c1 : Nat) (l1 : List Int) (_r : Bool) (w : World) (hr0_2 : Kd.C k105 w A0_2 l0_2.length l0_2) (hc0_2 : l0_2.length ≤ c0_2) (hr1 : Kd.C (Kd.int .i16) w A1 l1.length l1) (hc1 : l1.length ≤ c1) (h : quietuslaw14_ClockDeadlinesAreSure.f k a0_0 a0_1 l0_2 l1 = some true) :
    Calls Try.prog 12 #[.agg #[.int .u32 a0_0, .int .u32 a0_1, .slice A0_2 l0_2.length c0_2], .slice A1 l1.length c1] w fun e w' => e = .returned (.bool true) ∧ Below w.heap.size w w' := by
  unfold quietuslaw14_ClockDeadlinesAreSure.f at h
  have hmx : l0_2.length ≤ 9223372036854775807 := hr0_2.2.1
  have hmx1 : l1.length ≤ 9223372036854775807 := hr1.2.1
  have HR := Aside0.mk hr0_2
  have HC := Aside0.mk hc0_2
  clear hr0_2 hc0_2
  have HR1 := Aside0.mk hr1
  have HC1 := Aside0.mk hc1
  clear hr1 hc1
  have ok0 : Aside0 (HdOk w w []) := ⟨Below.refl _ _, fun i p h => by simp at h, fun i p h => by simp at h, fun i j p q _ h => by simp at h⟩
  by_cases c30 : 30 < l0_2.length
  · have hd1 : decide (30 < l0_2.length) = true := decide_eq_true c30
    have hd2 : decide ((30 : Int) < (l0_2.length : Int)) = true := decide_eq_true (by omega)
    go_enter Try.func12, Try.ntmps12
    go_wp2_with fail
    refine (quietuslaw14_sanity.calls true _ rfl).mono ?_
    rintro e W1 ⟨rfl, hb⟩
    have okf := (ok0.out.add (Obj.cells #[.int .u32 a0_0, .int .u32 a0_1, .slice A0_2 l0_2.length c0_2] 100 (0, 0))).step hb
    clear hb
    go_wp2_with fail
    go_ret
    exact ⟨rfl, okf.hb⟩
  · have hd1 : decide (30 < l0_2.length) = false := decide_eq_false c30
    have hd2 : decide ((30 : Int) < (l0_2.length : Int)) = false := decide_eq_false (by omega)
    rw [if_neg c30] at h
    obtain ⟨⟨b1, b2, b3, b4⟩, hbg, h⟩ := Option.bind_eq_some_iff.1 h
    have HBG := Aside0.mk hbg
    have H := Aside0.mk h
    clear hbg h
    go_enter Try.func12, Try.ntmps12
    go_wp2_with fail
    have ok1 := Aside0.mk (ok0.out.add (Obj.cells #[.int .u32 a0_0, .int .u32 a0_1, .slice A0_2 l0_2.length c0_2] 100 (0, 0)))
    refine (quietuslaw14_begun.calls a0_0 a0_1 A0_2 c0_2 l0_2 b1 b2 b3 b4 _ (Kd.C_below HR.out ok1.out.hb) HC.out HBG.out).mono ?_
    rintro e W1 ⟨v4, rfl, hR4, hb⟩
    have ok2 := Aside0.mk (ok1.out.step hb)
    clear hb
    obtain ⟨A4, c4, rfl, hl4⟩ := Kd.Q_slice (Kd.Q_of_R hR4)
    have HQ4 := Aside0.mk (Kd.Q_lower (Kd.Q_of_R hR4) ok1.out.hb.size)
    have HL4 := Aside0.mk hl4
    clear hR4 hl4
    have hz0 : W1.cell? ⟨w.heap.size, 0, none⟩ = some (.int .u32 a0_0) := (blk_cell (ok2.out.held 0 _ rfl) 0).trans rfl
    have hz1 : W1.cell? ⟨w.heap.size, 1, none⟩ = some (.int .u32 a0_1) := (blk_cell (ok2.out.held 0 _ rfl) 1).trans rfl
    have hz2 : W1.cell? ⟨w.heap.size, 2, none⟩ = some (.slice A0_2 l0_2.length c0_2) := (blk_cell (ok2.out.held 0 _ rfl) 2).trans rfl
    have hgt : w.heap.size < W1.heap.size := blk_lt (ok2.out.held 0 _ rfl)
    go_wp2_with fail
    have ok3 : Aside0 (HdOk w _ [(_, Obj.cells #[.int .i64 b1, .int .i64 b2, .int .i64 b3, .slice A4 b4.length c4] 102 (0, 0)), (w.heap.size, Obj.cells #[.int .u32 a0_0, .int .u32 a0_1, .slice A0_2 l0_2.length c0_2] 100 (0, 0))]) := ⟨ok2.out.add (Obj.cells #[.int .i64 b1, .int .i64 b2, .int .i64 b3, .slice A4 b4.length c4] 102 (0, 0))⟩
    have HQ5 := Aside0.mk (Kd.Q_alloc HQ4.out (Obj.cells #[.int .i64 b1, .int .i64 b2, .int .i64 b3, .slice A4 b4.length c4] 102 (0, 0)))
    generalize hgm : W1.heap.size = gm at ok3 ⊢
    generalize W1.alloc (Obj.cells #[.int .i64 b1, .int .i64 b2, .int .i64 b3, .slice A4 b4.length c4] 102 (0, 0)) = W3 at ok3 HQ5 ⊢
    clear hz0 hz1 hz2 hgt hgm ok1 ok2 HQ4
    go_loopw [26] (fun v20 wr => ∃ (i : Nat) (now value rate : Int) (A : Option Addr) (c : Nat) (rs : List S58), i ≤ l0_2.length ∧ v20 = .int .i64 (i : Int) ∧ Aside0 (sure.run k now value rate rs (l0_2.drop i) (l1.drop i) = some true) ∧ Aside0 (HdOk w wr [(gm, Obj.cells #[.int .i64 now, .int .i64 value, .int .i64 rate, .slice A rs.length c] 102 (0, 0)), (w.heap.size, Obj.cells #[.int .u32 a0_0, .int .u32 a0_1, .slice A0_2 l0_2.length c0_2] 100 (0, 0))]) ∧ Aside0 (Kd.Q k58 58 wr w.heap.size (fun _ => True) (.slice A rs.length c) rs) ∧ Aside0 (rs.length ≤ c)) (fun v20 _ => l0_2.length - (intOf v20).toNat)
    case atStart => exact ⟨0, b1, b2, b3, A4, c4, b4, Nat.zero_le _, rfl, H, ok3, HQ5, HL4⟩
    case round =>
      obtain ⟨i, now, value, rate, A, c, rs, hi, rfl, HRUN, okr, HQ, HL⟩ := hrel
      by_cases hlt : i < l0_2.length
      rotate_left
      · have hd : decide (i < l0_2.length) = false := decide_eq_false hlt
        have hd3 : decide ((i : Int) < (l0_2.length : Int)) = false := decide_eq_false (by omega)
        go_wp2_with fail
        refine (quietuslaw14_sanity.calls true _ rfl).mono ?_
        rintro e W9 ⟨rfl, hb⟩
        have okf := okr.out.step hb
        clear hb
        go_wp2_with fail
        go_ret
        exact ⟨rfl, okf.hb⟩
      have hd : decide (i < l0_2.length) = true := decide_eq_true hlt
      have hd3 : decide ((i : Int) < (l0_2.length : Int)) = true := decide_eq_true (by omega)
      obtain ⟨ad, hA, p0, p1, p2, p3, p4⟩ := at_T105 (Kd.C_below HR.out okr.out.hb) (i : Int) (by omega) (by omega)
      have h0 := HRUN.out
      rw [List.drop_eq_getElem_cons hlt, sure.run] at h0
      have hel : rd_T105 l0_2 (i : Int) = l0_2[i] := by unfold rd_T105; rw [Int.toNat_natCast, List.getD_eq_getElem?_getD, List.getElem?_eq_getElem hlt]; rfl
      rw [← hel] at h0
      clear hel
      generalize rd_T105 l0_2 (i : Int) = s at h0 p0 p1 p2 p3 p4
      rw [Int.toNat_natCast] at p0 p1 p2 p3 p4
      subst hA
      obtain ⟨⟨t1, t2, t3, t4, t5⟩, hg, h1⟩ := Option.bind_eq_some_iff.1 h0
      clear h0
      have HG := Aside0.mk hg
      clear hg
      by_cases ca : t5 = true ∧ (0 ≤ t2 ∧ t2 ≤ 1000000000000000) ∧ 0 ≤ t1 ∧ t1 ≤ 1000000000
      rotate_left
      · rw [if_neg ca] at h1; cases h1
      rw [if_pos ca] at h1
      obtain ⟨rfl, ct2, ct1⟩ := ca
      obtain ⟨bz, hask, h3⟩ := Option.bind_eq_some_iff.1 h1
      clear h1
      have HASK := Aside0.mk hask
      clear hask
      rw [List.drop_drop] at h3
      have H3 := Aside0.mk h3
      clear h3
      have hz0 : wr.cell? ⟨gm, 0, none⟩ = some (.int .i64 now) := (blk_cell (okr.out.held 0 _ rfl) 0).trans rfl
      have hz1 : wr.cell? ⟨gm, 1, none⟩ = some (.int .i64 value) := (blk_cell (okr.out.held 0 _ rfl) 1).trans rfl
      have hz2 : wr.cell? ⟨gm, 2, none⟩ = some (.int .i64 rate) := (blk_cell (okr.out.held 0 _ rfl) 2).trans rfl
      have hz3 : wr.cell? ⟨gm, 3, none⟩ = some (.slice A rs.length c) := (blk_cell (okr.out.held 0 _ rfl) 3).trans rfl
      have hgt : gm < wr.heap.size := blk_lt (okr.out.held 0 _ rfl)
      go_wp2_with fail
      have okA : HdOk w _ [(_, Obj.cells #[.int .u16 s.f0, .int .i32 s.f1, .int .u8 s.f2, .int .u8 s.f3, .int .u8 s.f4] 105 (0, 0)), (gm, Obj.cells #[.int .i64 now, .int .i64 value, .int .i64 rate, .slice A rs.length c] 102 (0, 0)), (w.heap.size, Obj.cells #[.int .u32 a0_0, .int .u32 a0_1, .slice (some ad) l0_2.length c0_2] 100 (0, 0))] := okr.out.add (Obj.cells #[.int .u16 s.f0, .int .i32 s.f1, .int .u8 s.f2, .int .u8 s.f3, .int .u8 s.f4] 105 (0, 0))
      have okB := Aside0.mk okA
      have hsz := okA.hb.size
      have HSZ := Aside0.mk hsz
      clear okA hsz
      refine (quietuslaw14_moment_goOn.calls_ k w.heap.size now value rate A c rs s.f0 s.f1 s.f2 s.f3 s.f4 t1 t2 t3 t4 true _ HSZ.out (Kd.Q_alloc HQ.out (Obj.cells #[.int .u16 s.f0, .int .i32 s.f1, .int .u8 s.f2, .int .u8 s.f3, .int .u8 s.f4] 105 (0, 0))) HL.out HG.out).mono ?_
      rintro e W4 ⟨A2, c2, rfl, hq2, hl2, hb2⟩
      have ok4 := Aside0.mk (okB.out.step hb2)
      have HQ2 := Aside0.mk hq2
      have HL2 := Aside0.mk hl2
      clear hq2 hl2 hb2
      clear hz0 hz1 hz2 hz3 hgt p0 p1 p2 p3 p4
      have ha0 : W4.cell? ⟨gm, 0, none⟩ = some (.int .i64 now) := (blk_cell (ok4.out.held 1 _ rfl) 0).trans rfl
      have ha1 : W4.cell? ⟨gm, 1, none⟩ = some (.int .i64 value) := (blk_cell (ok4.out.held 1 _ rfl) 1).trans rfl
      have ha2 : W4.cell? ⟨gm, 2, none⟩ = some (.int .i64 rate) := (blk_cell (ok4.out.held 1 _ rfl) 2).trans rfl
      have ha3 : W4.cell? ⟨gm, 3, none⟩ = some (.slice A rs.length c) := (blk_cell (ok4.out.held 1 _ rfl) 3).trans rfl
      have hag : gm < W4.heap.size := blk_lt (ok4.out.held 1 _ rfl)
      have hf0 : W4.frozen? ⟨gm, 0, none⟩ = false := blk_frozen (ok4.out.held 1 _ rfl) 0
      have hf1 : W4.frozen? ⟨gm, 1, none⟩ = false := blk_frozen (ok4.out.held 1 _ rfl) 1
      have hf2 : W4.frozen? ⟨gm, 2, none⟩ = false := blk_frozen (ok4.out.held 1 _ rfl) 2
      have hf3 : W4.frozen? ⟨gm, 3, none⟩ = false := blk_frozen (ok4.out.held 1 _ rfl) 3
      go_upto_region 11 with (fail)
      have q0_ := Kd.Q_set HQ2.out (ok4.out.held 1 (gm, Obj.cells #[.int .i64 now, .int .i64 value, .int .i64 rate, .slice A rs.length c] 102 (0, 0)) rfl) (by decide) 0 (.int .i64 t1)
      have o0_ : HdOk w _ [(_, Obj.cells #[.int .u16 s.f0, .int .i32 s.f1, .int .u8 s.f2, .int .u8 s.f3, .int .u8 s.f4] 105 (0, 0)), (gm, Obj.cells #[.int .i64 t1, .int .i64 value, .int .i64 rate, .slice A rs.length c] 102 (0, 0)), (w.heap.size, Obj.cells #[.int .u32 a0_0, .int .u32 a0_1, .slice (some ad) l0_2.length c0_2] 100 (0, 0))] := ok4.out.put (i := 1) rfl 0 (.int .i64 t1)
      have q1_ := Kd.Q_set q0_ (o0_.held 1 (gm, Obj.cells #[.int .i64 t1, .int .i64 value, .int .i64 rate, .slice A rs.length c] 102 (0, 0)) rfl) (by decide) 1 (.int .i64 t2)
      have o1_ : HdOk w _ [(_, Obj.cells #[.int .u16 s.f0, .int .i32 s.f1, .int .u8 s.f2, .int .u8 s.f3, .int .u8 s.f4] 105 (0, 0)), (gm, Obj.cells #[.int .i64 t1, .int .i64 t2, .int .i64 rate, .slice A rs.length c] 102 (0, 0)), (w.heap.size, Obj.cells #[.int .u32 a0_0, .int .u32 a0_1, .slice (some ad) l0_2.length c0_2] 100 (0, 0))] := o0_.put (i := 1) rfl 1 (.int .i64 t2)
      have q2_ := Kd.Q_set q1_ (o1_.held 1 (gm, Obj.cells #[.int .i64 t1, .int .i64 t2, .int .i64 rate, .slice A rs.length c] 102 (0, 0)) rfl) (by decide) 2 (.int .i64 t3)
      have o2_ : HdOk w _ [(_, Obj.cells #[.int .u16 s.f0, .int .i32 s.f1, .int .u8 s.f2, .int .u8 s.f3, .int .u8 s.f4] 105 (0, 0)), (gm, Obj.cells #[.int .i64 t1, .int .i64 t2, .int .i64 t3, .slice A rs.length c] 102 (0, 0)), (w.heap.size, Obj.cells #[.int .u32 a0_0, .int .u32 a0_1, .slice (some ad) l0_2.length c0_2] 100 (0, 0))] := o1_.put (i := 1) rfl 2 (.int .i64 t3)
      have q3_ := Kd.Q_set q2_ (o2_.held 1 (gm, Obj.cells #[.int .i64 t1, .int .i64 t2, .int .i64 t3, .slice A rs.length c] 102 (0, 0)) rfl) (by decide) 3 (.slice A2 t4.length c2)
      have o3_ : HdOk w _ [(_, Obj.cells #[.int .u16 s.f0, .int .i32 s.f1, .int .u8 s.f2, .int .u8 s.f3, .int .u8 s.f4] 105 (0, 0)), (gm, Obj.cells #[.int .i64 t1, .int .i64 t2, .int .i64 t3, .slice A2 t4.length c2] 102 (0, 0)), (w.heap.size, Obj.cells #[.int .u32 a0_0, .int .u32 a0_1, .slice (some ad) l0_2.length c0_2] 100 (0, 0))] := o2_.put (i := 1) rfl 3 (.slice A2 t4.length c2)
      have HQ5 := Aside0.mk (Kd.Q_alloc q3_ (Obj.cells #[.int .i64 t1, .int .i64 t2, .int .i64 t3, .slice A2 t4.length c2] 102 (0, 0)))
      have o4_ := o3_.add (Obj.cells #[.int .i64 t1, .int .i64 t2, .int .i64 t3, .slice A2 t4.length c2] 102 (0, 0))
      have ok5 := Aside0.mk (o4_.two2 (i := 2) (j := 3) (by decide) rfl rfl)
      clear q0_ q1_ q2_ q3_ o0_ o1_ o2_ o3_ o4_ hf0 hf1 hf2 hf3
      clear ha0 ha1 ha2 ha3 hag
      generalize ((((W4.setCell ⟨gm, 0, none⟩ (.int .i64 t1)).setCell ⟨gm, 1, none⟩ (.int .i64 t2)).setCell ⟨gm, 2, none⟩ (.int .i64 t3)).setCell ⟨gm, 3, none⟩ (.slice A2 t4.length c2)).alloc (Obj.cells #[.int .i64 t1, .int .i64 t2, .int .i64 t3, .slice A2 t4.length c2] 102 (0, 0)) = W5 at ok5 HQ5 ⊢
      clear HQ2 ok4 okB HQ okr HSZ
      have ha0 : W5.cell? ⟨gm, 0, none⟩ = some (.int .i64 t1) := (blk_cell (ok5.out.held 0 _ rfl) 0).trans rfl
      have ha1 : W5.cell? ⟨gm, 1, none⟩ = some (.int .i64 t2) := (blk_cell (ok5.out.held 0 _ rfl) 1).trans rfl
      have ha2 : W5.cell? ⟨gm, 2, none⟩ = some (.int .i64 t3) := (blk_cell (ok5.out.held 0 _ rfl) 2).trans rfl
      have ha3 : W5.cell? ⟨gm, 3, none⟩ = some (.slice A2 t4.length c2) := (blk_cell (ok5.out.held 0 _ rfl) 3).trans rfl
      have hag : gm < W5.heap.size := blk_lt (ok5.out.held 0 _ rfl)
      by_cases ci : i < l1.length
      rotate_left
      · have he1 : decide ((i : Int) ≥ (l1.length : Int)) = true := decide_eq_true (by omega)
        have he2 : decide (l1.length ≤ i) = true := decide_eq_true (by omega)
        have he3 : decide ((l1.length : Int) ≤ (i : Int)) = true := decide_eq_true (by omega)
        go_quiet (fail)
        have ok6 := Aside0.mk (ok5.out.step (pw_below_drewN (Below.refl _ _) nq))
        have HQ6 := Aside0.mk (Kd.Q_drewN HQ5.out nq)
        generalize W5.drewN nq = W6 at ok6 HQ6 ⊢
        go_wp2_with fail
        go_roundw
        case rel => exact ⟨i + 1, t1, t2, t3, A2, c2, t4, by omega, by go_num, H3, ⟨ok6.out⟩, ⟨HQ6.out⟩, HL2⟩
        case measure => simp only [intOf]; omega
      have he1 : decide ((i : Int) ≥ (l1.length : Int)) = false := decide_eq_false (by omega)
      have he2 : decide (l1.length ≤ i) = false := decide_eq_false (by omega)
      have he3 : decide ((l1.length : Int) ≤ (i : Int)) = false := decide_eq_false (by omega)
      obtain ⟨ad1, hA1, px⟩ := Kd.at_int (Kd.C_below HR1.out ok5.out.hb) (i : Int) (by omega) (by omega)
      rw [Int.toNat_natCast] at px
      subst hA1
      have h5 := HASK.out
      rw [List.drop_eq_getElem_cons ci] at h5
      have hel : rd l1 (i : Int) = l1[i] := by unfold rd; rw [Int.toNat_natCast, List.getD_eq_getElem?_getD, List.getElem?_eq_getElem ci]; rfl
      rw [← hel] at h5
      clear hel
      simp only at h5
      obtain ⟨x, hx⟩ : ∃ x, rd l1 (i : Int) = x := ⟨_, rfl⟩
      rw [hx] at h5 px
      have HX := Aside0.mk hx
      clear hx
      by_cases cx : -32768 ≤ x ∧ x ≤ 32767
      rotate_left
      · rw [if_neg cx] at h5; cases h5
      rw [if_pos cx] at h5
      unfold sure.ask at h5
      obtain ⟨du, hdu⟩ : ∃ du, t1 + x = du := ⟨_, rfl⟩
      rw [hdu] at h5
      by_cases cd : du < 0
      · have hl1 : decide (du < 0) = true := decide_eq_true cd
        go_quiet (fail)
        have ok6 := Aside0.mk (ok5.out.step (pw_below_drewN (Below.refl _ _) nq))
        have HQ6 := Aside0.mk (Kd.Q_drewN HQ5.out nq)
        generalize W5.drewN nq = W6 at ok6 HQ6 ⊢
        go_wp2_with fail
        go_roundw
        case rel => exact ⟨i + 1, t1, t2, t3, A2, c2, t4, by omega, by go_num, H3, ⟨ok6.out⟩, ⟨HQ6.out⟩, HL2⟩
        case measure => simp only [intOf]; omega
      have hl1 : decide (du < 0) = false := decide_eq_false cd
      rw [if_neg cd] at h5
      obtain ⟨⟨la1, la2⟩, hla, h6⟩ := Option.bind_eq_some_iff.1 h5
      obtain ⟨⟨ea1, ea2⟩, hea, h7⟩ := Option.bind_eq_some_iff.1 h6
      clear h5 h6
      have HLA := Aside0.mk hla
      have HEA := Aside0.mk hea
      clear hla hea
      by_cases cq : (la2 = 0 ∨ la2 = 8) ∧ (ea2 = 0 ∨ ea2 = 8) ∧ (la2 = 0 → t2 / 1000000 ≤ la1 → t1 ≤ du) ∧ (ea2 = 0 → ea1 ≤ t2 / 1000000 → du ≤ t1)
      rotate_left
      · rw [if_neg cq] at h7; cases h7
      clear h7
      obtain ⟨cq1, cq2, cq3, cq4⟩ := cq
      go_quiet (fail)
      have ok6 := Aside0.mk (ok5.out.step (pw_below_drewN (Below.refl _ _) nq))
      have HQ6 := Aside0.mk (Kd.Q_drewN HQ5.out nq)
      generalize W5.drewN nq = W6 at ok6 HQ6 ⊢
      clear ha0 ha1 ha2 ha3 hag
      clear px ok5 HQ5
      have ha0 : W6.cell? ⟨gm, 0, none⟩ = some (.int .i64 t1) := (blk_cell (ok6.out.held 0 _ rfl) 0).trans rfl
      have ha1 : W6.cell? ⟨gm, 1, none⟩ = some (.int .i64 t2) := (blk_cell (ok6.out.held 0 _ rfl) 1).trans rfl
      have ha2 : W6.cell? ⟨gm, 2, none⟩ = some (.int .i64 t3) := (blk_cell (ok6.out.held 0 _ rfl) 2).trans rfl
      have ha3 : W6.cell? ⟨gm, 3, none⟩ = some (.slice A2 t4.length c2) := (blk_cell (ok6.out.held 0 _ rfl) 3).trans rfl
      have hag : gm < W6.heap.size := blk_lt (ok6.out.held 0 _ rfl)
      obtain ⟨adz, ez, px⟩ := Kd.at_int (Kd.C_below HR1.out ok6.out.hb) (i : Int) (by omega) (by omega)
      obtain rfl := Option.some.inj ez
      rw [Int.toNat_natCast] at px
      have hxz : rd l1 (i : Int) = x := HX.out
      rw [hxz] at px
      clear hxz
      go_wp2_with fail
      go_quiet (fail)
      have ok7 := Aside0.mk (ok6.out.step (pw_below_drewN (Below.refl _ _) nq))
      have HQ7 := Aside0.mk (Kd.Q_drewN HQ6.out nq)
      generalize W6.drewN nq = W7 at ok7 HQ7 ⊢
      clear ha0 ha1 ha2 ha3 hag
      clear px
      have ha0 : W7.cell? ⟨gm, 0, none⟩ = some (.int .i64 t1) := (blk_cell (ok7.out.held 0 _ rfl) 0).trans rfl
      have ha1 : W7.cell? ⟨gm, 1, none⟩ = some (.int .i64 t2) := (blk_cell (ok7.out.held 0 _ rfl) 1).trans rfl
      have ha2 : W7.cell? ⟨gm, 2, none⟩ = some (.int .i64 t3) := (blk_cell (ok7.out.held 0 _ rfl) 2).trans rfl
      have ha3 : W7.cell? ⟨gm, 3, none⟩ = some (.slice A2 t4.length c2) := (blk_cell (ok7.out.held 0 _ rfl) 3).trans rfl
      have hag : gm < W7.heap.size := blk_lt (ok7.out.held 0 _ rfl)
      go_wp2_with fail
      refine (clock_Latest.calls k t3 A2 c2 t4 du la1 la2 _ (Kd.Q_reads' HQ7.out).2.2 HL2.out HLA.out).mono ?_
      rintro e W8 ⟨rfl, hb⟩
      have ok8 := Aside0.mk (ok7.out.step hb)
      have HQ8 := Aside0.mk (Kd.Q_below HQ7.out hb)
      clear hb
      clear ha0 ha1 ha2 ha3 hag
      have ha0 : W8.cell? ⟨gm, 0, none⟩ = some (.int .i64 t1) := (blk_cell (ok8.out.held 0 _ rfl) 0).trans rfl
      have ha1 : W8.cell? ⟨gm, 1, none⟩ = some (.int .i64 t2) := (blk_cell (ok8.out.held 0 _ rfl) 1).trans rfl
      have ha2 : W8.cell? ⟨gm, 2, none⟩ = some (.int .i64 t3) := (blk_cell (ok8.out.held 0 _ rfl) 2).trans rfl
      have ha3 : W8.cell? ⟨gm, 3, none⟩ = some (.slice A2 t4.length c2) := (blk_cell (ok8.out.held 0 _ rfl) 3).trans rfl
      have hag : gm < W8.heap.size := blk_lt (ok8.out.held 0 _ rfl)
      go_wp2_with fail
      refine (clock_Earliest.calls k t3 A2 c2 t4 du ea1 ea2 _ (Kd.Q_reads' HQ8.out).2.2 HL2.out HEA.out).mono ?_
      rintro e W9 ⟨rfl, hb⟩
      have ok9 := Aside0.mk (ok8.out.step hb)
      have HQ9 := Aside0.mk (Kd.Q_below HQ8.out hb)
      clear hb
      clear ha0 ha1 ha2 ha3 hag
      have ha0 : W9.cell? ⟨gm, 0, none⟩ = some (.int .i64 t1) := (blk_cell (ok9.out.held 0 _ rfl) 0).trans rfl
      have ha1 : W9.cell? ⟨gm, 1, none⟩ = some (.int .i64 t2) := (blk_cell (ok9.out.held 0 _ rfl) 1).trans rfl
      have ha2 : W9.cell? ⟨gm, 2, none⟩ = some (.int .i64 t3) := (blk_cell (ok9.out.held 0 _ rfl) 2).trans rfl
      have ha3 : W9.cell? ⟨gm, 3, none⟩ = some (.slice A2 t4.length c2) := (blk_cell (ok9.out.held 0 _ rfl) 3).trans rfl
      have hag : gm < W9.heap.size := blk_lt (ok9.out.held 0 _ rfl)
      have GQ := Aside0.mk (And.intro cq3 cq4)
      clear cq3 cq4
      rcases cq1 with rfl | rfl <;> rcases cq2 with rfl | rfl
      · by_cases cl : t2 / 1000000 ≤ la1 <;> by_cases cf : ea1 ≤ t2 / 1000000
        · skip
          have hb1 : decide (t2 / 1000000 ≤ la1) = true := decide_eq_true (by omega)
          have hb2 : decide (t2 / 1000000 ≥ ea1) = true := decide_eq_true (by omega)
          have hb3 : decide (ea1 ≤ t2 / 1000000) = true := decide_eq_true (by omega)
          have g1 := GQ.out.1 rfl cl
          have hb4 : decide (t1 > du) = false := decide_eq_false (by omega)
          have hb5 : decide (du < t1) = false := decide_eq_false (by omega)
          clear g1
          have g2 := GQ.out.2 rfl cf
          have hb6 : decide (t1 < du) = false := decide_eq_false (by omega)
          clear g2
          clear cl cf
          go_wp2_with fail
          go_roundw
          case rel => exact ⟨i + 1, t1, t2, t3, A2, c2, t4, by omega, by go_num, H3, ⟨ok9.out⟩, ⟨HQ9.out⟩, HL2⟩
          case measure => simp only [intOf]; omega
        · skip
          have hb1 : decide (t2 / 1000000 ≤ la1) = true := decide_eq_true (by omega)
          have hb2 : decide (t2 / 1000000 ≥ ea1) = false := decide_eq_false (by omega)
          have hb3 : decide (ea1 ≤ t2 / 1000000) = false := decide_eq_false (by omega)
          have g1 := GQ.out.1 rfl cl
          have hb4 : decide (t1 > du) = false := decide_eq_false (by omega)
          have hb5 : decide (du < t1) = false := decide_eq_false (by omega)
          clear g1
          clear cl cf
          go_wp2_with fail
          go_roundw
          case rel => exact ⟨i + 1, t1, t2, t3, A2, c2, t4, by omega, by go_num, H3, ⟨ok9.out⟩, ⟨HQ9.out⟩, HL2⟩
          case measure => simp only [intOf]; omega
        · skip
          have hb1 : decide (t2 / 1000000 ≤ la1) = false := decide_eq_false (by omega)
          have hb2 : decide (t2 / 1000000 ≥ ea1) = true := decide_eq_true (by omega)
          have hb3 : decide (ea1 ≤ t2 / 1000000) = true := decide_eq_true (by omega)
          have g2 := GQ.out.2 rfl cf
          have hb6 : decide (t1 < du) = false := decide_eq_false (by omega)
          clear g2
          clear cl cf
          go_wp2_with fail
          go_roundw
          case rel => exact ⟨i + 1, t1, t2, t3, A2, c2, t4, by omega, by go_num, H3, ⟨ok9.out⟩, ⟨HQ9.out⟩, HL2⟩
          case measure => simp only [intOf]; omega
        · skip
          have hb1 : decide (t2 / 1000000 ≤ la1) = false := decide_eq_false (by omega)
          have hb2 : decide (t2 / 1000000 ≥ ea1) = false := decide_eq_false (by omega)
          have hb3 : decide (ea1 ≤ t2 / 1000000) = false := decide_eq_false (by omega)
          clear cl cf
          go_wp2_with fail
          go_roundw
          case rel => exact ⟨i + 1, t1, t2, t3, A2, c2, t4, by omega, by go_num, H3, ⟨ok9.out⟩, ⟨HQ9.out⟩, HL2⟩
          case measure => simp only [intOf]; omega
      · by_cases cl : t2 / 1000000 ≤ la1 <;> by_cases cf : ea1 ≤ t2 / 1000000
        · skip
          have hb1 : decide (t2 / 1000000 ≤ la1) = true := decide_eq_true (by omega)
          have hb2 : decide (t2 / 1000000 ≥ ea1) = true := decide_eq_true (by omega)
          have hb3 : decide (ea1 ≤ t2 / 1000000) = true := decide_eq_true (by omega)
          have g1 := GQ.out.1 rfl cl
          have hb4 : decide (t1 > du) = false := decide_eq_false (by omega)
          have hb5 : decide (du < t1) = false := decide_eq_false (by omega)
          clear g1
          clear cl cf
          go_wp2_with fail
          go_roundw
          case rel => exact ⟨i + 1, t1, t2, t3, A2, c2, t4, by omega, by go_num, H3, ⟨ok9.out⟩, ⟨HQ9.out⟩, HL2⟩
          case measure => simp only [intOf]; omega
        · skip
          have hb1 : decide (t2 / 1000000 ≤ la1) = true := decide_eq_true (by omega)
          have hb2 : decide (t2 / 1000000 ≥ ea1) = false := decide_eq_false (by omega)
          have hb3 : decide (ea1 ≤ t2 / 1000000) = false := decide_eq_false (by omega)
          have g1 := GQ.out.1 rfl cl
          have hb4 : decide (t1 > du) = false := decide_eq_false (by omega)
          have hb5 : decide (du < t1) = false := decide_eq_false (by omega)
          clear g1
          clear cl cf
          go_wp2_with fail
          go_roundw
          case rel => exact ⟨i + 1, t1, t2, t3, A2, c2, t4, by omega, by go_num, H3, ⟨ok9.out⟩, ⟨HQ9.out⟩, HL2⟩
          case measure => simp only [intOf]; omega
        · skip
          have hb1 : decide (t2 / 1000000 ≤ la1) = false := decide_eq_false (by omega)
          have hb2 : decide (t2 / 1000000 ≥ ea1) = true := decide_eq_true (by omega)
          have hb3 : decide (ea1 ≤ t2 / 1000000) = true := decide_eq_true (by omega)
          clear cl cf
          go_wp2_with fail
          go_roundw
          case rel => exact ⟨i + 1, t1, t2, t3, A2, c2, t4, by omega, by go_num, H3, ⟨ok9.out⟩, ⟨HQ9.out⟩, HL2⟩
          case measure => simp only [intOf]; omega
        · skip
          have hb1 : decide (t2 / 1000000 ≤ la1) = false := decide_eq_false (by omega)
          have hb2 : decide (t2 / 1000000 ≥ ea1) = false := decide_eq_false (by omega)
          have hb3 : decide (ea1 ≤ t2 / 1000000) = false := decide_eq_false (by omega)
          clear cl cf
          go_wp2_with fail
          go_roundw
          case rel => exact ⟨i + 1, t1, t2, t3, A2, c2, t4, by omega, by go_num, H3, ⟨ok9.out⟩, ⟨HQ9.out⟩, HL2⟩
          case measure => simp only [intOf]; omega
      · by_cases cl : t2 / 1000000 ≤ la1 <;> by_cases cf : ea1 ≤ t2 / 1000000
        · skip
          have hb1 : decide (t2 / 1000000 ≤ la1) = true := decide_eq_true (by omega)
          have hb2 : decide (t2 / 1000000 ≥ ea1) = true := decide_eq_true (by omega)
          have hb3 : decide (ea1 ≤ t2 / 1000000) = true := decide_eq_true (by omega)
          have g2 := GQ.out.2 rfl cf
          have hb6 : decide (t1 < du) = false := decide_eq_false (by omega)
          clear g2
          clear cl cf
          go_wp2_with fail
          go_roundw
          case rel => exact ⟨i + 1, t1, t2, t3, A2, c2, t4, by omega, by go_num, H3, ⟨ok9.out⟩, ⟨HQ9.out⟩, HL2⟩
          case measure => simp only [intOf]; omega
        · skip
          have hb1 : decide (t2 / 1000000 ≤ la1) = true := decide_eq_true (by omega)
          have hb2 : decide (t2 / 1000000 ≥ ea1) = false := decide_eq_false (by omega)
          have hb3 : decide (ea1 ≤ t2 / 1000000) = false := decide_eq_false (by omega)
          clear cl cf
          go_wp2_with fail
          go_roundw
          case rel => exact ⟨i + 1, t1, t2, t3, A2, c2, t4, by omega, by go_num, H3, ⟨ok9.out⟩, ⟨HQ9.out⟩, HL2⟩
          case measure => simp only [intOf]; omega
        · skip
          have hb1 : decide (t2 / 1000000 ≤ la1) = false := decide_eq_false (by omega)
          have hb2 : decide (t2 / 1000000 ≥ ea1) = true := decide_eq_true (by omega)
          have hb3 : decide (ea1 ≤ t2 / 1000000) = true := decide_eq_true (by omega)
          have g2 := GQ.out.2 rfl cf
          have hb6 : decide (t1 < du) = false := decide_eq_false (by omega)
          clear g2
          clear cl cf
          go_wp2_with fail
          go_roundw
          case rel => exact ⟨i + 1, t1, t2, t3, A2, c2, t4, by omega, by go_num, H3, ⟨ok9.out⟩, ⟨HQ9.out⟩, HL2⟩
          case measure => simp only [intOf]; omega
        · skip
          have hb1 : decide (t2 / 1000000 ≤ la1) = false := decide_eq_false (by omega)
          have hb2 : decide (t2 / 1000000 ≥ ea1) = false := decide_eq_false (by omega)
          have hb3 : decide (ea1 ≤ t2 / 1000000) = false := decide_eq_false (by omega)
          clear cl cf
          go_wp2_with fail
          go_roundw
          case rel => exact ⟨i + 1, t1, t2, t3, A2, c2, t4, by omega, by go_num, H3, ⟨ok9.out⟩, ⟨HQ9.out⟩, HL2⟩
          case measure => simp only [intOf]; omega
      · by_cases cl : t2 / 1000000 ≤ la1 <;> by_cases cf : ea1 ≤ t2 / 1000000
        · skip
          have hb1 : decide (t2 / 1000000 ≤ la1) = true := decide_eq_true (by omega)
          have hb2 : decide (t2 / 1000000 ≥ ea1) = true := decide_eq_true (by omega)
          have hb3 : decide (ea1 ≤ t2 / 1000000) = true := decide_eq_true (by omega)
          clear cl cf
          go_wp2_with fail
          go_roundw
          case rel => exact ⟨i + 1, t1, t2, t3, A2, c2, t4, by omega, by go_num, H3, ⟨ok9.out⟩, ⟨HQ9.out⟩, HL2⟩
          case measure => simp only [intOf]; omega
        · skip
          have hb1 : decide (t2 / 1000000 ≤ la1) = true := decide_eq_true (by omega)
          have hb2 : decide (t2 / 1000000 ≥ ea1) = false := decide_eq_false (by omega)
          have hb3 : decide (ea1 ≤ t2 / 1000000) = false := decide_eq_false (by omega)
          clear cl cf
          go_wp2_with fail
          go_roundw
          case rel => exact ⟨i + 1, t1, t2, t3, A2, c2, t4, by omega, by go_num, H3, ⟨ok9.out⟩, ⟨HQ9.out⟩, HL2⟩
          case measure => simp only [intOf]; omega
        · skip
          have hb1 : decide (t2 / 1000000 ≤ la1) = false := decide_eq_false (by omega)
          have hb2 : decide (t2 / 1000000 ≥ ea1) = true := decide_eq_true (by omega)
          have hb3 : decide (ea1 ≤ t2 / 1000000) = true := decide_eq_true (by omega)
          clear cl cf
          go_wp2_with fail
          go_roundw
          case rel => exact ⟨i + 1, t1, t2, t3, A2, c2, t4, by omega, by go_num, H3, ⟨ok9.out⟩, ⟨HQ9.out⟩, HL2⟩
          case measure => simp only [intOf]; omega
        · skip
          have hb1 : decide (t2 / 1000000 ≤ la1) = false := decide_eq_false (by omega)
          have hb2 : decide (t2 / 1000000 ≥ ea1) = false := decide_eq_false (by omega)
          have hb3 : decide (ea1 ≤ t2 / 1000000) = false := decide_eq_false (by omega)
          clear cl cf
          go_wp2_with fail
          go_roundw
          case rel => exact ⟨i + 1, t1, t2, t3, A2, c2, t4, by omega, by go_num, H3, ⟨ok9.out⟩, ⟨HQ9.out⟩, HL2⟩
          case measure => simp only [intOf]; omega
end Go.Proofs.Yteknbadjfojmbaa.QA
