-- What this claim does not use was left out by prune.py, a program of this session.
import Derived.Test.YteknbadjfojmbaaQA0
import Derived.Test.YteknbadjfojmbaaQA22
import Derived.Test.YteknbadjfojmbaaQA26
import Derived.Test.YteknbadjfojmbaaQA27
import Derived.Test.YteknbadjfojmbaaQA36
import Derived.Test.YteknbadjfojmbaaQA37
namespace Go.Proofs.Yteknbadjfojmbaa.QA
open Go.RowKit Go.Proofs.YteknbadjfojmbaaW.PrintWords Go.Proofs.YteknbadjfojmbaaW.PrintLast Go.Proofs.YteknbadjfojmbaaW.PrintMore
attribute [local go_sem] max2_int min2_int max_two min_two max_three min_three max_four min_four
set_option linter.unusedVariables false
set_option linter.unusedSimpArgs false
theorem HdOk.two {w W : World} {l : List (Nat × Obj)} (h : HdOk w W l) {i j : Nat} {p q : Nat × Obj} (hij : i < j) (hi : l[i]? = some p) (hj : l[j]? = some q) : HdOk w W [p, q] := by
  have g : ∀ (a : Nat) (x : Nat × Obj), [p, q][a]? = some x → a = 0 ∧ x = p ∨ a = 1 ∧ x = q := by
    intro a x hx
    match a with
    | 0 => exact .inl ⟨rfl, (Option.some.inj hx).symm⟩
    | 1 => exact .inr ⟨rfl, (Option.some.inj hx).symm⟩
    | a + 2 => simp at hx
  refine ⟨h.hb, fun a x hx => ?_, fun a x hx => ?_, fun a b x y hab hx hy => ?_⟩
  · rcases g a x hx with ⟨_, rfl⟩ | ⟨_, rfl⟩
    · exact h.held i _ hi
    · exact h.held j _ hj
  · rcases g a x hx with ⟨_, rfl⟩ | ⟨_, rfl⟩
    · exact h.new i _ hi
    · exact h.new j _ hj
  · rcases g a x hx with ⟨e1, rfl⟩ | ⟨e1, rfl⟩ <;> rcases g b y hy with ⟨e2, rfl⟩ | ⟨e2, rfl⟩
    · omega
    · exact h.dec i j _ _ hij hi hj
    · omega
    · omega
def holds.run (k : Nat) : Int → Int → Int → List S58 → List S105 → Option Bool
  | _, _, _, _, [] => some true
  | now, value, rate, rs, s :: ss => (quietuslaw14_moment_goOn.f k now value rate rs s.f0 s.f1 s.f2 s.f3 s.f4).bind fun t =>
      if t.2.2.2.2 = true ∧ 0 ≤ t.2.1 ∧ t.2.1 ≤ 1000000000000000 then (quietusref14_Check.f k t.2.2.1 t.2.2.2.1).bind fun e => if e = 0 then (clock_Now.f k t.2.2.1 t.2.2.2.1 (t.2.1 / 1000000)).bind fun q =>
        if q.2.2 = 0 ∧ q.1 ≤ t.1 ∧ t.1 ≤ q.2.1 then holds.run k t.1 t.2.1 t.2.2.1 t.2.2.2.1 ss else none else none else none
def quietuslaw14_ClockHoldsTheTruth.f (k : Nat) (a0_0 a0_1 : Int) (l0_2 : List S105) : Option Bool :=
  if 30 < l0_2.length then some true else (quietuslaw14_begun.f a0_0 a0_1 l0_2).bind fun b => holds.run k b.1 b.2.1 b.2.2.1 b.2.2.2 l0_2
set_option maxRecDepth 100000 in
set_option maxHeartbeats 1600000 in
theorem quietuslaw14_ClockHoldsTheTruth.calls (k : Nat) (a0_0 : Int) (a0_1 : Int) (A0_2 : Option Addr) (c0_2 : Nat) (l0_2 : List (S105)) (_r : Bool) (w : World) (hr0_2 : Kd.C k105 w A0_2 l0_2.length l0_2) (hc0_2 : l0_2.length ≤ c0_2) (h : quietuslaw14_ClockHoldsTheTruth.f k a0_0 a0_1 l0_2 = some true) :
    Calls Try.prog 11 #[.agg #[.int .u32 a0_0, .int .u32 a0_1, .slice A0_2 l0_2.length c0_2]] w fun e w' => e = .returned (.bool true) ∧ Below w.heap.size w w' := by
  unfold quietuslaw14_ClockHoldsTheTruth.f at h
  have hmx : l0_2.length ≤ 9223372036854775807 := hr0_2.2.1
  have HR := Aside0.mk hr0_2
  have HC := Aside0.mk hc0_2
  clear hr0_2 hc0_2
  have ok0 : Aside0 (HdOk w w []) := ⟨Below.refl _ _, fun i p h => by simp at h, fun i p h => by simp at h, fun i j p q _ h => by simp at h⟩
  by_cases c1 : 30 < l0_2.length
  · have hd1 : decide (30 < l0_2.length) = true := decide_eq_true c1
    have hd2 : decide ((30 : Int) < (l0_2.length : Int)) = true := decide_eq_true (by omega)
    go_enter Try.func11, Try.ntmps11
    go_wp2_with fail
    refine (quietuslaw14_sanity.calls true _ rfl).mono ?_
    rintro e W1 ⟨rfl, hb⟩
    have okf := (ok0.out.add (Obj.cells #[.int .u32 a0_0, .int .u32 a0_1, .slice A0_2 l0_2.length c0_2] 100 (0, 0))).step hb
    clear hb
    go_wp2_with fail
    go_ret
    exact ⟨rfl, okf.hb⟩
  · have hd1 : decide (30 < l0_2.length) = false := decide_eq_false c1
    have hd2 : decide ((30 : Int) < (l0_2.length : Int)) = false := decide_eq_false (by omega)
    rw [if_neg c1] at h
    obtain ⟨⟨b1, b2, b3, b4⟩, hbg, h⟩ := Option.bind_eq_some_iff.1 h
    have HBG := Aside0.mk hbg
    have H := Aside0.mk h
    clear hbg h
    go_enter Try.func11, Try.ntmps11
    go_wp2_with fail
    have ok1 := Aside0.mk (ok0.out.add (Obj.cells #[.int .u32 a0_0, .int .u32 a0_1, .slice A0_2 l0_2.length c0_2] 100 (0, 0)))
    refine (quietuslaw14_begun.calls a0_0 a0_1 A0_2 c0_2 l0_2 b1 b2 b3 b4 _ (Kd.C_below HR.out ok1.out.hb) HC.out HBG.out).mono ?_
    rintro e W1 ⟨v4, rfl, hR4, hb⟩
    have ok2 := Aside0.mk (ok1.out.step hb)
    clear hb
    obtain ⟨A4, c4, rfl, hl4⟩ := Kd.Q_slice (Kd.Q_of_R hR4)
    have HQ4 := Aside0.mk (Kd.Q_lower (Kd.Q_of_R hR4) ok1.out.hb.size)
    have HL4 := Aside0.mk hl4
    clear hR4 hl4
    have hz0 : W1.cell? ⟨w.heap.size, 0, none⟩ = some (.int .u32 a0_0) := (blk_cell (ok2.out.held 0 _ rfl) 0).trans rfl
    have hz1 : W1.cell? ⟨w.heap.size, 1, none⟩ = some (.int .u32 a0_1) := (blk_cell (ok2.out.held 0 _ rfl) 1).trans rfl
    have hz2 : W1.cell? ⟨w.heap.size, 2, none⟩ = some (.slice A0_2 l0_2.length c0_2) := (blk_cell (ok2.out.held 0 _ rfl) 2).trans rfl
    have hgt : w.heap.size < W1.heap.size := blk_lt (ok2.out.held 0 _ rfl)
    go_wp2_with fail
    have ok3 : Aside0 (HdOk w _ [(_, Obj.cells #[.int .i64 b1, .int .i64 b2, .int .i64 b3, .slice A4 b4.length c4] 102 (0, 0)), (w.heap.size, Obj.cells #[.int .u32 a0_0, .int .u32 a0_1, .slice A0_2 l0_2.length c0_2] 100 (0, 0))]) := ⟨ok2.out.add (Obj.cells #[.int .i64 b1, .int .i64 b2, .int .i64 b3, .slice A4 b4.length c4] 102 (0, 0))⟩
    have HQ5 := Aside0.mk (Kd.Q_alloc HQ4.out (Obj.cells #[.int .i64 b1, .int .i64 b2, .int .i64 b3, .slice A4 b4.length c4] 102 (0, 0)))
    generalize hgm : W1.heap.size = gm at ok3 ⊢
    generalize W1.alloc (Obj.cells #[.int .i64 b1, .int .i64 b2, .int .i64 b3, .slice A4 b4.length c4] 102 (0, 0)) = W3 at ok3 HQ5 ⊢
    clear hz0 hz1 hz2 hgt hgm ok1 ok2 HQ4
    go_loopw [20] (fun v20 wr => ∃ (i : Nat) (now value rate : Int) (A : Option Addr) (c : Nat) (rs : List S58), i ≤ l0_2.length ∧ v20 = .int .i64 (i : Int) ∧ Aside0 (holds.run k now value rate rs (l0_2.drop i) = some true) ∧ Aside0 (HdOk w wr [(gm, Obj.cells #[.int .i64 now, .int .i64 value, .int .i64 rate, .slice A rs.length c] 102 (0, 0)), (w.heap.size, Obj.cells #[.int .u32 a0_0, .int .u32 a0_1, .slice A0_2 l0_2.length c0_2] 100 (0, 0))]) ∧ Aside0 (Kd.Q k58 58 wr w.heap.size (fun _ => True) (.slice A rs.length c) rs) ∧ Aside0 (rs.length ≤ c)) (fun v20 _ => l0_2.length - (intOf v20).toNat)
    case atStart => exact ⟨0, b1, b2, b3, A4, c4, b4, Nat.zero_le _, rfl, H, ok3, HQ5, HL4⟩
    case round =>
      obtain ⟨i, now, value, rate, A, c, rs, hi, rfl, HRUN, okr, HQ, HL⟩ := hrel
      by_cases hlt : i < l0_2.length
      rotate_left
      · have hd : decide (i < l0_2.length) = false := decide_eq_false hlt
        have hd3 : decide ((i : Int) < (l0_2.length : Int)) = false := decide_eq_false (by omega)
        go_wp2_with fail
        refine (quietuslaw14_sanity.calls true _ rfl).mono ?_
        rintro e W9 ⟨rfl, hb⟩
        have okf := okr.out.step hb
        clear hb
        go_wp2_with fail
        go_ret
        exact ⟨rfl, okf.hb⟩
      have hd : decide (i < l0_2.length) = true := decide_eq_true hlt
      have hd3 : decide ((i : Int) < (l0_2.length : Int)) = true := decide_eq_true (by omega)
      obtain ⟨ad, hA, p0, p1, p2, p3, p4⟩ := at_T105 (Kd.C_below HR.out okr.out.hb) (i : Int) (by omega) (by omega)
      have h0 := HRUN.out
      rw [List.drop_eq_getElem_cons hlt, holds.run] at h0
      have hel : rd_T105 l0_2 (i : Int) = l0_2[i] := by unfold rd_T105; rw [Int.toNat_natCast, List.getD_eq_getElem?_getD, List.getElem?_eq_getElem hlt]; rfl
      rw [← hel] at h0
      clear hel
      generalize rd_T105 l0_2 (i : Int) = s at h0 p0 p1 p2 p3 p4
      rw [Int.toNat_natCast] at p0 p1 p2 p3 p4
      subst hA
      obtain ⟨⟨t1, t2, t3, t4, t5⟩, hg, h1⟩ := Option.bind_eq_some_iff.1 h0
      clear h0
      have HG := Aside0.mk hg
      clear hg
      by_cases ca : t5 = true ∧ 0 ≤ t2 ∧ t2 ≤ 1000000000000000
      rotate_left
      · rw [if_neg ca] at h1; cases h1
      rw [if_pos ca] at h1
      obtain ⟨rfl, ct2⟩ := ca
      obtain ⟨e0, hck, h2⟩ := Option.bind_eq_some_iff.1 h1
      clear h1
      have HCK := Aside0.mk hck
      clear hck
      by_cases cb : e0 = 0
      rotate_left
      · rw [if_neg cb] at h2; cases h2
      rw [if_pos cb] at h2
      subst cb
      obtain ⟨⟨q1, q2, q3⟩, hnw, h3⟩ := Option.bind_eq_some_iff.1 h2
      clear h2
      have HNW := Aside0.mk hnw
      clear hnw
      by_cases cc : q3 = 0 ∧ q1 ≤ t1 ∧ t1 ≤ q2
      rotate_left
      · rw [if_neg cc] at h3; cases h3
      rw [if_pos cc] at h3
      obtain ⟨rfl, cq1, cq2⟩ := cc
      have H3 := Aside0.mk h3
      clear h3
      have hz0 : wr.cell? ⟨gm, 0, none⟩ = some (.int .i64 now) := (blk_cell (okr.out.held 0 _ rfl) 0).trans rfl
      have hz1 : wr.cell? ⟨gm, 1, none⟩ = some (.int .i64 value) := (blk_cell (okr.out.held 0 _ rfl) 1).trans rfl
      have hz2 : wr.cell? ⟨gm, 2, none⟩ = some (.int .i64 rate) := (blk_cell (okr.out.held 0 _ rfl) 2).trans rfl
      have hz3 : wr.cell? ⟨gm, 3, none⟩ = some (.slice A rs.length c) := (blk_cell (okr.out.held 0 _ rfl) 3).trans rfl
      have hgt : gm < wr.heap.size := blk_lt (okr.out.held 0 _ rfl)
      go_wp2_with fail
      have okA : HdOk w _ [(_, Obj.cells #[.int .u16 s.f0, .int .i32 s.f1, .int .u8 s.f2, .int .u8 s.f3, .int .u8 s.f4] 105 (0, 0)), (gm, Obj.cells #[.int .i64 now, .int .i64 value, .int .i64 rate, .slice A rs.length c] 102 (0, 0)), (w.heap.size, Obj.cells #[.int .u32 a0_0, .int .u32 a0_1, .slice (some ad) l0_2.length c0_2] 100 (0, 0))] := okr.out.add (Obj.cells #[.int .u16 s.f0, .int .i32 s.f1, .int .u8 s.f2, .int .u8 s.f3, .int .u8 s.f4] 105 (0, 0))
      have okB := Aside0.mk okA
      have hsz := okA.hb.size
      have HSZ := Aside0.mk hsz
      clear okA hsz
      refine (quietuslaw14_moment_goOn.calls_ k w.heap.size now value rate A c rs s.f0 s.f1 s.f2 s.f3 s.f4 t1 t2 t3 t4 true _ HSZ.out (Kd.Q_alloc HQ.out (Obj.cells #[.int .u16 s.f0, .int .i32 s.f1, .int .u8 s.f2, .int .u8 s.f3, .int .u8 s.f4] 105 (0, 0))) HL.out HG.out).mono ?_
      rintro e W4 ⟨A2, c2, rfl, hq2, hl2, hb2⟩
      have ok4 := Aside0.mk (okB.out.step hb2)
      have HQ2 := Aside0.mk hq2
      have HL2 := Aside0.mk hl2
      clear hq2 hl2 hb2
      clear hz0 hz1 hz2 hz3 hgt p0 p1 p2 p3 p4
      have ha0 : W4.cell? ⟨gm, 0, none⟩ = some (.int .i64 now) := (blk_cell (ok4.out.held 1 _ rfl) 0).trans rfl
      have ha1 : W4.cell? ⟨gm, 1, none⟩ = some (.int .i64 value) := (blk_cell (ok4.out.held 1 _ rfl) 1).trans rfl
      have ha2 : W4.cell? ⟨gm, 2, none⟩ = some (.int .i64 rate) := (blk_cell (ok4.out.held 1 _ rfl) 2).trans rfl
      have ha3 : W4.cell? ⟨gm, 3, none⟩ = some (.slice A rs.length c) := (blk_cell (ok4.out.held 1 _ rfl) 3).trans rfl
      have hag : gm < W4.heap.size := blk_lt (ok4.out.held 1 _ rfl)
      go_wp2_with fail
      have ok5 : Aside0 (HdOk w _ [(_, Obj.cells #[.int .i64 t1, .int .i64 t2, .int .i64 t3, .slice A2 t4.length c2] 102 (0, 0)), (_, Obj.cells #[.int .u16 s.f0, .int .i32 s.f1, .int .u8 s.f2, .int .u8 s.f3, .int .u8 s.f4] 105 (0, 0)), (gm, Obj.cells #[.int .i64 now, .int .i64 value, .int .i64 rate, .slice A rs.length c] 102 (0, 0)), (w.heap.size, Obj.cells #[.int .u32 a0_0, .int .u32 a0_1, .slice (some ad) l0_2.length c0_2] 100 (0, 0))]) := ⟨ok4.out.add (Obj.cells #[.int .i64 t1, .int .i64 t2, .int .i64 t3, .slice A2 t4.length c2] 102 (0, 0))⟩
      refine (quietusref14_Check.calls k t3 A2 c2 t4 0 _ (Kd.Q_reads' (Kd.Q_alloc HQ2.out (Obj.cells #[.int .i64 t1, .int .i64 t2, .int .i64 t3, .slice A2 t4.length c2] 102 (0, 0)))).2.2 HL2.out HCK.out).mono ?_
      rintro e W5 ⟨rfl, hb⟩
      have ok6 := Aside0.mk (ok5.out.step hb)
      have HQ3 := Aside0.mk (Kd.Q_below (Kd.Q_alloc HQ2.out (Obj.cells #[.int .i64 t1, .int .i64 t2, .int .i64 t3, .slice A2 t4.length c2] 102 (0, 0))) hb)
      clear hb ok5
      clear ha0 ha1 ha2 ha3 hag
      have hn0 : W5.cell? ⟨W4.heap.size, 0, none⟩ = some (.int .i64 t1) := (blk_cell (ok6.out.held 0 _ rfl) 0).trans rfl
      have hn1 : W5.cell? ⟨W4.heap.size, 1, none⟩ = some (.int .i64 t2) := (blk_cell (ok6.out.held 0 _ rfl) 1).trans rfl
      have hn2 : W5.cell? ⟨W4.heap.size, 2, none⟩ = some (.int .i64 t3) := (blk_cell (ok6.out.held 0 _ rfl) 2).trans rfl
      have hn3 : W5.cell? ⟨W4.heap.size, 3, none⟩ = some (.slice A2 t4.length c2) := (blk_cell (ok6.out.held 0 _ rfl) 3).trans rfl
      have hng : W4.heap.size < W5.heap.size := blk_lt (ok6.out.held 0 _ rfl)
      have ha0 : W5.cell? ⟨gm, 0, none⟩ = some (.int .i64 now) := (blk_cell (ok6.out.held 2 _ rfl) 0).trans rfl
      have ha1 : W5.cell? ⟨gm, 1, none⟩ = some (.int .i64 value) := (blk_cell (ok6.out.held 2 _ rfl) 1).trans rfl
      have ha2 : W5.cell? ⟨gm, 2, none⟩ = some (.int .i64 rate) := (blk_cell (ok6.out.held 2 _ rfl) 2).trans rfl
      have ha3 : W5.cell? ⟨gm, 3, none⟩ = some (.slice A rs.length c) := (blk_cell (ok6.out.held 2 _ rfl) 3).trans rfl
      have hag : gm < W5.heap.size := blk_lt (ok6.out.held 2 _ rfl)
      go_wp2_with fail
      refine (clock_Now.calls k t3 A2 c2 t4 (t2 / 1000000) q1 q2 0 _ (Kd.Q_reads' HQ3.out).2.2 HL2.out HNW.out).mono ?_
      rintro e W6 ⟨rfl, hb⟩
      have ok7 := Aside0.mk (ok6.out.step hb)
      have HQ6 := Aside0.mk (Kd.Q_below HQ3.out hb)
      clear hb
      clear hn0 hn1 hn2 hn3 hng
      clear ha0 ha1 ha2 ha3 hag
      have hn0 : W6.cell? ⟨W4.heap.size, 0, none⟩ = some (.int .i64 t1) := (blk_cell (ok7.out.held 0 _ rfl) 0).trans rfl
      have hn1 : W6.cell? ⟨W4.heap.size, 1, none⟩ = some (.int .i64 t2) := (blk_cell (ok7.out.held 0 _ rfl) 1).trans rfl
      have hn2 : W6.cell? ⟨W4.heap.size, 2, none⟩ = some (.int .i64 t3) := (blk_cell (ok7.out.held 0 _ rfl) 2).trans rfl
      have hn3 : W6.cell? ⟨W4.heap.size, 3, none⟩ = some (.slice A2 t4.length c2) := (blk_cell (ok7.out.held 0 _ rfl) 3).trans rfl
      have hng : W4.heap.size < W6.heap.size := blk_lt (ok7.out.held 0 _ rfl)
      have ha0 : W6.cell? ⟨gm, 0, none⟩ = some (.int .i64 now) := (blk_cell (ok7.out.held 2 _ rfl) 0).trans rfl
      have ha1 : W6.cell? ⟨gm, 1, none⟩ = some (.int .i64 value) := (blk_cell (ok7.out.held 2 _ rfl) 1).trans rfl
      have ha2 : W6.cell? ⟨gm, 2, none⟩ = some (.int .i64 rate) := (blk_cell (ok7.out.held 2 _ rfl) 2).trans rfl
      have ha3 : W6.cell? ⟨gm, 3, none⟩ = some (.slice A rs.length c) := (blk_cell (ok7.out.held 2 _ rfl) 3).trans rfl
      have hag : gm < W6.heap.size := blk_lt (ok7.out.held 2 _ rfl)
      have hf0 : W6.frozen? ⟨gm, 0, none⟩ = false := blk_frozen (ok7.out.held 2 _ rfl) 0
      have hf1 : W6.frozen? ⟨gm, 1, none⟩ = false := blk_frozen (ok7.out.held 2 _ rfl) 1
      have hf2 : W6.frozen? ⟨gm, 2, none⟩ = false := blk_frozen (ok7.out.held 2 _ rfl) 2
      have hf3 : W6.frozen? ⟨gm, 3, none⟩ = false := blk_frozen (ok7.out.held 2 _ rfl) 3
      have hd4 : decide (q1 > t1) = false := decide_eq_false (by omega)
      have hd5 : decide (t1 < q1) = false := decide_eq_false (by omega)
      have hd6 : decide (q2 < t1) = false := decide_eq_false (by omega)
      go_wp2_with fail
      go_roundw
      case rel =>
        have q0_ := Kd.Q_set HQ6.out (ok7.out.held 2 (gm, Obj.cells #[.int .i64 now, .int .i64 value, .int .i64 rate, .slice A rs.length c] 102 (0, 0)) rfl) (by decide) 0 (.int .i64 t1)
        have o0_ : HdOk w _ [(_, Obj.cells #[.int .i64 t1, .int .i64 t2, .int .i64 t3, .slice A2 t4.length c2] 102 (0, 0)), (_, Obj.cells #[.int .u16 s.f0, .int .i32 s.f1, .int .u8 s.f2, .int .u8 s.f3, .int .u8 s.f4] 105 (0, 0)), (gm, Obj.cells #[.int .i64 t1, .int .i64 value, .int .i64 rate, .slice A rs.length c] 102 (0, 0)), (w.heap.size, Obj.cells #[.int .u32 a0_0, .int .u32 a0_1, .slice (some ad) l0_2.length c0_2] 100 (0, 0))] := ok7.out.put (i := 2) rfl 0 (.int .i64 t1)
        have q1_ := Kd.Q_set q0_ (o0_.held 2 (gm, Obj.cells #[.int .i64 t1, .int .i64 value, .int .i64 rate, .slice A rs.length c] 102 (0, 0)) rfl) (by decide) 1 (.int .i64 t2)
        have o1_ : HdOk w _ [(_, Obj.cells #[.int .i64 t1, .int .i64 t2, .int .i64 t3, .slice A2 t4.length c2] 102 (0, 0)), (_, Obj.cells #[.int .u16 s.f0, .int .i32 s.f1, .int .u8 s.f2, .int .u8 s.f3, .int .u8 s.f4] 105 (0, 0)), (gm, Obj.cells #[.int .i64 t1, .int .i64 t2, .int .i64 rate, .slice A rs.length c] 102 (0, 0)), (w.heap.size, Obj.cells #[.int .u32 a0_0, .int .u32 a0_1, .slice (some ad) l0_2.length c0_2] 100 (0, 0))] := o0_.put (i := 2) rfl 1 (.int .i64 t2)
        have q2_ := Kd.Q_set q1_ (o1_.held 2 (gm, Obj.cells #[.int .i64 t1, .int .i64 t2, .int .i64 rate, .slice A rs.length c] 102 (0, 0)) rfl) (by decide) 2 (.int .i64 t3)
        have o2_ : HdOk w _ [(_, Obj.cells #[.int .i64 t1, .int .i64 t2, .int .i64 t3, .slice A2 t4.length c2] 102 (0, 0)), (_, Obj.cells #[.int .u16 s.f0, .int .i32 s.f1, .int .u8 s.f2, .int .u8 s.f3, .int .u8 s.f4] 105 (0, 0)), (gm, Obj.cells #[.int .i64 t1, .int .i64 t2, .int .i64 t3, .slice A rs.length c] 102 (0, 0)), (w.heap.size, Obj.cells #[.int .u32 a0_0, .int .u32 a0_1, .slice (some ad) l0_2.length c0_2] 100 (0, 0))] := o1_.put (i := 2) rfl 2 (.int .i64 t3)
        have q3_ := Kd.Q_set q2_ (o2_.held 2 (gm, Obj.cells #[.int .i64 t1, .int .i64 t2, .int .i64 t3, .slice A rs.length c] 102 (0, 0)) rfl) (by decide) 3 (.slice A2 t4.length c2)
        have o3_ : HdOk w _ [(_, Obj.cells #[.int .i64 t1, .int .i64 t2, .int .i64 t3, .slice A2 t4.length c2] 102 (0, 0)), (_, Obj.cells #[.int .u16 s.f0, .int .i32 s.f1, .int .u8 s.f2, .int .u8 s.f3, .int .u8 s.f4] 105 (0, 0)), (gm, Obj.cells #[.int .i64 t1, .int .i64 t2, .int .i64 t3, .slice A2 t4.length c2] 102 (0, 0)), (w.heap.size, Obj.cells #[.int .u32 a0_0, .int .u32 a0_1, .slice (some ad) l0_2.length c0_2] 100 (0, 0))] := o2_.put (i := 2) rfl 3 (.slice A2 t4.length c2)
        have of_ := o3_.add (Obj.cells #[.int .i64 q1, .int .i64 q2] 56 (0, 0))
        exact ⟨i + 1, t1, t2, t3, A2, c2, t4, by omega, by go_num, H3, ⟨of_.two (i := 3) (j := 4) (by decide) rfl rfl⟩, ⟨Kd.Q_alloc q3_ (Obj.cells #[.int .i64 q1, .int .i64 q2] 56 (0, 0))⟩, HL2⟩
      case measure => simp only [intOf]; omega
end Go.Proofs.Yteknbadjfojmbaa.QA
