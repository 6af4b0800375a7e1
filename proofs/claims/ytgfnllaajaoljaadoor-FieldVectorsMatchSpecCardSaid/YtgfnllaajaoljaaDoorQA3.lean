-- WRITTEN BY qprint.py, a program of this session (the kit's print, driven with contracts proved by hand): Lean checks it.
import Derived.Test.YtgfnllaajaoljaaDoorQA0
import Derived.Test.YtgfnllaajaoljaaDoorQA2
namespace Go.Proofs.YtgfnllaajaoljaaDoor.QA
open Go.RowKit Go.Proofs.YtgfnllaajaoljaaDoorW.PrintWords Go.Proofs.YtgfnllaajaoljaaDoorW.PrintLast Go.Proofs.YtgfnllaajaoljaaDoorW.PrintMore
attribute [local go_sem] max2_int min2_int max_two min_two max_three min_three max_four min_four   -- for this text's walks alone
set_option linter.unusedVariables false
set_option linter.unusedSimpArgs false

/-! ### gf_Combine: function 24 (by hand) -/
/-- The sum of the first i products at a place. -/
def combN (coef : List Int) (parts : List ByteArray) (k : Nat) : Nat → Nat
  | 0 => 0
  | i + 1 => combN coef parts k i ^^^ gmul (rd coef i).toNat (bt (rdOf ByteArray.empty parts i) k).toNat
def gf_Combine.bytes (coef : List Int) : Bool := coef.all fun c => decide (0 ≤ c) && decide (c < 256)
def gf_Combine.len (parts : List ByteArray) : Nat := (rdOf ByteArray.empty parts 0).size
def gf_Combine.even (parts : List ByteArray) : Bool := parts.all fun s => decide (s.size = gf_Combine.len parts)
def gf_Combine.f (l0 : List Int) (l1 : List ByteArray) : Option (ByteArray × Int) :=
  if l0.length = l1.length then (if gf_Combine.even l1 = true then (if gf_Combine.bytes l0 = true ∧ gf_Combine.len l1 ≤ 140737488351232 then some (strOfNums ((List.range (gf_Combine.len l1)).map fun k => ((combN l0 l1 k l0.length : Nat) : Int)), 0) else none) else some (⟨#[]⟩, 1)) else some (⟨#[]⟩, 1)
theorem combN_lt (coef : List Int) (parts : List ByteArray) (k i : Nat) (hb : gf_Combine.bytes coef = true) : combN coef parts k i < 256 := by
  induction i with
  | zero => simp [combN]
  | succ i ih =>
    refine Nat.xor_lt_two_pow (n := 8) ih (gmul_lt _ _ ?_)
    unfold rd
    rw [Int.toNat_natCast, List.getD_eq_getElem?_getD]
    rcases Nat.lt_or_ge i coef.length with h | h
    · rw [List.getElem?_eq_getElem h]
      have := List.all_eq_true.1 hb coef[i] (List.getElem_mem h)
      simp at this ⊢
      omega
    · rw [List.getElem?_eq_none h]; simp
theorem rd_byte {coef : List Int} (hb : gf_Combine.bytes coef = true) (i : Int) : 0 ≤ rd coef i ∧ rd coef i < 256 := by
  unfold rd
  rw [List.getD_eq_getElem?_getD]
  rcases Nat.lt_or_ge i.toNat coef.length with h | h
  · rw [List.getElem?_eq_getElem h]
    have := List.all_eq_true.1 hb coef[i.toNat] (List.getElem_mem h)
    simp at this ⊢
    omega
  · rw [List.getElem?_eq_none h]; simp
theorem gf_Combine_1.calls (A0 A1 : Option Addr) (c0 c1 : Nat) (l0 : List Int) (l1 : List ByteArray) (p0 p1 : Nat) (k : Nat) (w : World) (h0 : w.cell? ⟨p0, 0, none⟩ = some (.slice A0 l0.length c0)) (h1 : w.cell? ⟨p1, 0, none⟩ = some (.slice A1 l1.length c1))
    (hr0 : Kd.C (Kd.int .u8) w A0 l0.length l0) (hr1 : Kd.C Kd.string w A1 l1.length l1) (hl : l0.length = l1.length) (he : gf_Combine.even l1 = true) (hb : gf_Combine.bytes l0 = true) (hk : k < gf_Combine.len l1) (hmax : gf_Combine.len l1 ≤ 140737488351232)
    (hrG : Kd.C (Kd.int .u8) w (some ⟨0, 0, none⟩) 16 highTbl) :
    Calls Tryd.prog 52 #[.int .i64 (k : Int), .pointer (some ⟨p0, 0, none⟩), .pointer (some ⟨p1, 0, none⟩)] w fun e w' => e = .returned (.int .u8 ((combN l0 l1 k l0.length : Nat) : Int)) ∧ Drawn0 w w' := by
  have HRG := Aside0.mk hrG
  have HR0 := Aside0.mk hr0
  have HR1 := Aside0.mk hr1
  have HL := Aside0.mk hl
  have HK := Aside0.mk hk
  have hmx := Kd.C_max hr0
  clear hrG hr0 hr1 hl hk
  go_enter Tryd.func52, Tryd.ntmps52
  go_wp2
  go_loopw [5, 10] (fun v5 v10 wr => ∃ i : Nat, i ≤ l0.length ∧ v10 = .int .i64 (i : Int) ∧ v5 = .int .u8 ((combN l0 l1 k i : Nat) : Int) ∧ Drawn0 w wr) (fun _ v10 _ => l0.length - (intOf v10).toNat)
  case atStart => exact ⟨0, Nat.zero_le _, rfl, rfl, Drawn0.refl _⟩
  case round =>
    obtain ⟨i, hi, rfl, rfl, ⟨nd, rfl⟩⟩ := hrel
    by_cases hlt : i < l0.length
    · have hd : decide ((i : Int) < (l0.length : Int)) = true := decide_eq_true (by omega)
      have hp0 : (0 : Int) ≤ (i : Int) := by omega
      obtain ⟨ad0, e0, hx0⟩ := Kd.at_int HR0.out (i : Int) hp0 (by omega)
      obtain ⟨ad1, e1, hx1⟩ := Kd.at_string HR1.out (i : Int) hp0 (by have := HL.out; omega)
      cases e0
      cases e1
      rw [Int.toNat_natCast] at hx0 hx1
      have hsz : (rdOf ByteArray.empty l1 (i : Int)).size = gf_Combine.len l1 := by
        have hi1 : i < l1.length := by have := HL.out; omega
        unfold rdOf
        rw [Int.toNat_natCast, List.getD_eq_getElem?_getD, List.getElem?_eq_getElem hi1]
        have := List.all_eq_true.1 he l1[i] (List.getElem_mem hi1)
        simpa using this
      have hkk : k < (rdOf ByteArray.empty l1 (i : Int)).size := by rw [hsz]; exact HK.out
      have hk0 : (0 : Int) ≤ (k : Int) := by omega
      have hk1 : (k : Int) < ((rdOf ByteArray.empty l1 (i : Int)).size : Int) := by omega
      have hi2 : (i : Int) < (l1.length : Int) := by have := HL.out; omega
      have hi3 : (i : Int) < (l0.length : Int) := by omega
      have hmb := rd_byte hb (i : Int)
      have hm : Aside0 (gf_MulW.f (rd l0 (i : Int)) (((rdOf ByteArray.empty l1 (i : Int))[k]'hkk).toNat : Int) = some ((gmul (rd l0 (i : Int)).toNat (bt (rdOf ByteArray.empty l1 (i : Int)) k).toNat : Nat) : Int)) := ⟨by
        have hbb := bt_range (rdOf ByteArray.empty l1 (i : Int)) (k : Int)
        rw [bt_nat _ k hkk]
        unfold gf_MulW.f
        rw [if_pos ⟨hmb.1, hmb.2, hbb.1, by omega⟩]⟩
      have HX : Aside0 (Go.bits .xor .u8 ((combN l0 l1 k i : Nat) : Int) ((gmul (rd l0 (i : Int)).toNat (bt (rdOf ByteArray.empty l1 (i : Int)) k).toNat : Nat) : Int) = ((combN l0 l1 k (i + 1) : Nat) : Int)) :=
        ⟨xor8 _ _ (combN_lt l0 l1 k i hb) (gmul_lt _ _ (by omega))⟩
      have HSZ := Aside0.mk hsz
      clear hsz
      go_wp2_with (go_at_call 16; (with_reducible refine (gf_MulW.calls _ _ _ _ ?sideG hm.out).mono ?_); (case sideG => repeat (first | exact HRG.out | (with_reducible refine Kd.C_drewN ?_ _) | (with_reducible refine Kd.C_drew ?_))); rintro e w' ⟨rfl, ⟨nd2, rfl⟩⟩)
      go_wp2
      go_roundw
      case rel => exact ⟨i + 1, by omega, by go_num, by rw [HX.out], ⟨⟨_, rfl⟩⟩⟩
      case measure => simp [intOf]; omega
    · have hd : decide ((i : Int) < (l0.length : Int)) = false := decide_eq_false (by omega)
      obtain rfl : i = l0.length := by omega
      go_wp2
      go_ret
      exact ⟨rfl, ⟨⟨_, rfl⟩⟩⟩
theorem even_all {l1 : List ByteArray} (h : ∀ j, j < l1.length → (rdOf ByteArray.empty l1 (j : Int)).size = gf_Combine.len l1) : gf_Combine.even l1 = true := by
  refine List.all_eq_true.2 fun s hs => ?_
  obtain ⟨j, hj, rfl⟩ := List.mem_iff_getElem.1 hs
  have := h j hj
  unfold rdOf at this
  rw [Int.toNat_natCast, List.getD_eq_getElem?_getD, List.getElem?_eq_getElem hj] at this
  simpa using this
theorem even_at {l1 : List ByteArray} (he : gf_Combine.even l1 = true) (j : Nat) (hj : j < l1.length) : (rdOf ByteArray.empty l1 (j : Int)).size = gf_Combine.len l1 := by
  unfold rdOf
  rw [Int.toNat_natCast, List.getD_eq_getElem?_getD, List.getElem?_eq_getElem hj]
  have := List.all_eq_true.1 he l1[j] (List.getElem_mem hj)
  simpa using this
theorem gf_Combine.calls (A0 : Option Addr) (c0 : Nat) (l0 : List Int) (A1 : Option Addr) (c1 : Nat) (l1 : List ByteArray) (r1 : ByteArray) (r2 : Int) (w : World) (hr0 : Kd.C (Kd.int .u8) w A0 l0.length l0) (hc0 : l0.length ≤ c0) (hr1 : Kd.C Kd.string w A1 l1.length l1) (hc1 : l1.length ≤ c1)
    (hrG : Kd.C (Kd.int .u8) w (some ⟨0, 0, none⟩) 16 highTbl) (h : gf_Combine.f l0 l1 = some (r1, r2)) :
    Calls Tryd.prog 24 #[.slice A0 l0.length c0, .slice A1 l1.length c1] w fun e w' => e = .returned (.tuple #[.string r1, .int .i64 r2]) ∧ Below w.heap.size w w' := by
  have H : (if l0.length = l1.length then (if gf_Combine.even l1 = true then (if gf_Combine.bytes l0 = true ∧ gf_Combine.len l1 ≤ 140737488351232 then some (strOfNums ((List.range (gf_Combine.len l1)).map fun k => ((combN l0 l1 k l0.length : Nat) : Int)), 0) else none) else some (⟨#[]⟩, 1)) else some (⟨#[]⟩, 1)) = some (r1, r2) := h
  clear h
  have HRG := Aside0.mk hrG
  have HR0 := Aside0.mk hr0
  have HR1 := Aside0.mk hr1
  have hmx := Kd.C_max hr1
  clear hrG hr0 hr1
  have hmf : ∀ (fn : Fn) (first cap : Array Value) (w : World), (Instr.makeFunc fn first cap).run Tryd.prog w = .ok (.func fn first cap) w := fun _ _ _ _ => rfl
  have HBB : Aside0 (Below w.heap.size w ((w.alloc (.cells #[.slice A0 l0.length c0] 36)).alloc (.cells #[.slice A1 l1.length c1] 37))) := ⟨((Below.refl w.heap.size w).alloc (Nat.le_refl _) _).alloc (by simp) _⟩
  by_cases hl : l0.length = l1.length
  · rw [if_pos hl] at H
    have hd : (l0.length == l1.length) = true := by simpa using hl
    have hd2 : ((l0.length : Int) != (l1.length : Int)) = false := by simp [hl]
    have HL := Aside0.mk hl
    clear hl
    by_cases he : gf_Combine.even l1 = true
    · rw [if_pos he] at H
      by_cases hb : gf_Combine.bytes l0 = true ∧ gf_Combine.len l1 ≤ 140737488351232
      · rw [if_pos hb] at H
        obtain ⟨rfl, rfl⟩ := Prod.mk.inj (Option.some.inj H)
        clear H
        obtain ⟨hb, hmax⟩ := hb
        have HEV := Aside0.mk he
        have HBY := Aside0.mk hb
        clear he hb
        go_enter Tryd.func24, Tryd.ntmps24
        go_wp2
        go_loop [6, 16] (fun v6 v16 => ∃ i : Nat, i ≤ l1.length ∧ v16 = .int .i64 (i : Int) ∧ v6 = .int .i64 (if i = 0 then 0 else (gf_Combine.len l1 : Int)) ∧ Aside0 (∀ j, j < i → (rdOf ByteArray.empty l1 (j : Int)).size = gf_Combine.len l1)) (fun _ v16 => l1.length - (intOf v16).toNat)
        case atStart => exact ⟨0, Nat.zero_le _, rfl, rfl, ⟨fun j hj => absurd hj (by omega)⟩⟩
        case round =>
          obtain ⟨i, hi, rfl, rfl, HP⟩ := hrel
          by_cases hlt : i < l1.length
          · have hd3 : decide ((i : Int) < (l1.length : Int)) = true := decide_eq_true (by omega)
            have hp0 : (0 : Int) ≤ (i : Int) := by omega
            have hp1 : (i : Int) < (l1.length : Int) := by omega
            obtain ⟨ad1, e1, hx1⟩ := Kd.at_string HR1.out (i : Int) hp0 (by omega)
            cases e1
            rw [Int.toNat_natCast] at hx1
            have hx2 := (HBB.out.cell (World.block_lt_of_cell? w _ hx1)).trans hx1
            by_cases hi0 : i = 0
            · subst hi0
              have hz : (((0 : Nat) : Int) == 0) = true := rfl
              rw [Addr.add_zero'] at hx2
              have hs : (rdOf ByteArray.empty l1 ((0 : Nat) : Int)).size = gf_Combine.len l1 := rfl
              have HS := Aside0.mk hs
              clear hs
              go_wp2
              go_round
              case rel =>
                refine ⟨1, by omega, by go_num, by rw [← HS.out]; rfl, ⟨fun j hj => ?_⟩⟩
                obtain rfl : j = 0 := by omega
                exact HS.out
              case measure => simp [intOf]; omega
            · rw [if_neg hi0]
              have hz : ((i : Int) == 0) = false := by simp; omega
              have hs := even_at HEV.out i hlt
              have hq : ((rdOf ByteArray.empty l1 (i : Int)).size == gf_Combine.len l1) = true := by simpa using hs
              have hq2 : (((rdOf ByteArray.empty l1 (i : Int)).size : Int) != (gf_Combine.len l1 : Int)) = false := by simp [hs]
              have HS := Aside0.mk hs
              clear hs
              go_wp2
              go_round
              case rel =>
                refine ⟨i + 1, by omega, by go_num, by rw [if_neg (by omega)], ⟨fun j hj => ?_⟩⟩
                rcases Nat.lt_or_ge j i with h1 | h1
                · exact HP.out j h1
                · obtain rfl : j = i := by omega
                  exact HS.out
              case measure => simp [intOf]; omega
          · have hd3 : decide ((i : Int) < (l1.length : Int)) = false := decide_eq_false (by omega)
            obtain rfl : i = l1.length := by omega
            have hn : (if l1.length = 0 then (0 : Int) else (gf_Combine.len l1 : Int)) = (gf_Combine.len l1 : Int) := by
              split
              · rename_i h0
                have : l1 = [] := List.eq_nil_of_length_eq_zero h0
                subst this
                rfl
              · rfl
            rw [hn]
            clear hn HP
            go_wp2_with fail
            refine (gf_build.calls (gf_Combine.len l1) 52 #[.pointer (some ⟨w.heap.size, 0, none⟩), .pointer (some ⟨w.heap.size + 1, 0, none⟩)] (fun k => ((combN l0 l1 k l0.length : Nat) : Int)) _ hmax (enters_fn Tryd.func52 (by kernel_rfl) rfl) ?hcl).mono ?_
            case hcl =>
              intro k hk W hb
              refine gf_Combine_1.calls A0 A1 c0 c1 l0 l1 w.heap.size (w.heap.size + 1) k W ((hb.cell (p := ⟨w.heap.size, 0, none⟩) (by simp; omega)).trans (by simp [go_sem])) ((hb.cell (p := ⟨w.heap.size + 1, 0, none⟩) (by simp)).trans (by simp [go_sem])) ?_ ?_ HL.out HEV.out HBY.out hk hmax ?_
              · exact Kd.C_below (Kd.C_alloc (Kd.C_alloc HR0.out _) _) hb
              · exact Kd.C_below (Kd.C_alloc (Kd.C_alloc HR1.out _) _) hb
              · exact Kd.C_below (Kd.C_alloc (Kd.C_alloc HRG.out _) _) hb
            rintro e w' ⟨rfl, hb⟩
            have hB := Aside0.mk (HBB.out.trans (hb.mono (by simp; omega)))
            clear hb
            go_wp2
            go_ret2
            exact ⟨rfl, hB.out⟩
      · rw [if_neg hb] at H; cases H
    · rw [if_neg he] at H
      obtain ⟨rfl, rfl⟩ := Prod.mk.inj (Option.some.inj H)
      clear H
      have HEV := Aside0.mk he
      clear he
      go_enter Tryd.func24, Tryd.ntmps24
      go_wp2
      go_loop [6, 16] (fun v6 v16 => ∃ i : Nat, i ≤ l1.length ∧ v16 = .int .i64 (i : Int) ∧ v6 = .int .i64 (if i = 0 then 0 else (gf_Combine.len l1 : Int)) ∧ Aside0 (∀ j, j < i → (rdOf ByteArray.empty l1 (j : Int)).size = gf_Combine.len l1)) (fun _ v16 => l1.length - (intOf v16).toNat)
      case atStart => exact ⟨0, Nat.zero_le _, rfl, rfl, ⟨fun j hj => absurd hj (by omega)⟩⟩
      case round =>
        obtain ⟨i, hi, rfl, rfl, HP⟩ := hrel
        by_cases hlt : i < l1.length
        · have hd3 : decide ((i : Int) < (l1.length : Int)) = true := decide_eq_true (by omega)
          have hp0 : (0 : Int) ≤ (i : Int) := by omega
          have hp1 : (i : Int) < (l1.length : Int) := by omega
          obtain ⟨ad1, e1, hx1⟩ := Kd.at_string HR1.out (i : Int) hp0 (by omega)
          cases e1
          rw [Int.toNat_natCast] at hx1
          have hx2 := (HBB.out.cell (World.block_lt_of_cell? w _ hx1)).trans hx1
          by_cases hi0 : i = 0
          · subst hi0
            have hz : (((0 : Nat) : Int) == 0) = true := rfl
            rw [Addr.add_zero'] at hx2
            have hs : (rdOf ByteArray.empty l1 ((0 : Nat) : Int)).size = gf_Combine.len l1 := rfl
            have HS := Aside0.mk hs
            clear hs
            go_wp2
            go_round
            case rel =>
              refine ⟨1, by omega, by go_num, by rw [← HS.out]; rfl, ⟨fun j hj => ?_⟩⟩
              obtain rfl : j = 0 := by omega
              exact HS.out
            case measure => simp [intOf]; omega
          · rw [if_neg hi0]
            have hz : ((i : Int) == 0) = false := by simp; omega
            by_cases hs : (rdOf ByteArray.empty l1 (i : Int)).size = gf_Combine.len l1
            · have hq : ((rdOf ByteArray.empty l1 (i : Int)).size == gf_Combine.len l1) = true := by simpa using hs
              have hq2 : (((rdOf ByteArray.empty l1 (i : Int)).size : Int) != (gf_Combine.len l1 : Int)) = false := by simp [hs]
              have HS := Aside0.mk hs
              clear hs
              go_wp2
              go_round
              case rel =>
                refine ⟨i + 1, by omega, by go_num, by rw [if_neg (by omega)], ⟨fun j hj => ?_⟩⟩
                rcases Nat.lt_or_ge j i with h1 | h1
                · exact HP.out j h1
                · obtain rfl : j = i := by omega
                  exact HS.out
              case measure => simp [intOf]; omega
            · have hq : ((rdOf ByteArray.empty l1 (i : Int)).size == gf_Combine.len l1) = false := by simpa using hs
              have hq2 : (((rdOf ByteArray.empty l1 (i : Int)).size : Int) != (gf_Combine.len l1 : Int)) = true := by simp; omega
              clear hs
              go_wp2
              go_ret2
              exact ⟨rfl, HBB.out⟩
        · have hd3 : decide ((i : Int) < (l1.length : Int)) = false := decide_eq_false (by omega)
          obtain rfl : i = l1.length := by omega
          exact absurd (even_all HP.out) HEV.out
  · rw [if_neg hl] at H
    obtain ⟨rfl, rfl⟩ := Prod.mk.inj (Option.some.inj H)
    have hd : (l0.length == l1.length) = false := by simpa using hl
    have hd2 : ((l0.length : Int) != (l1.length : Int)) = true := by simp; omega
    go_enter Tryd.func24, Tryd.ntmps24
    go_wp2
    go_ret2
    exact ⟨rfl, HBB.out⟩


/-! ### gf_Sum: function 26 (by hand) -/
def gf_Sum.at_ (a b : ByteArray) (k : Nat) : Int := if k < b.size then Go.bits .xor .u8 (bt a k) (bt b k) else bt a k
def gf_Sum.f (a0 a1 : ByteArray) : Option ByteArray :=
  if a0.size ≤ 140737488351232 then (if a1.size ≤ 140737488351232 then (if a0.size < a1.size then some (strOfNums ((List.range a1.size).map (gf_Sum.at_ a1 a0))) else some (strOfNums ((List.range a0.size).map (gf_Sum.at_ a0 a1)))) else none) else none
theorem gf_Sum_1.calls (a b : ByteArray) (pa pb : Nat) (k : Nat) (w : World) (ha : w.cell? ⟨pa, 0, none⟩ = some (.string a)) (hb : w.cell? ⟨pb, 0, none⟩ = some (.string b)) (hk : k < a.size) (hmax : a.size ≤ 140737488351232) (hmax2 : b.size ≤ 140737488351232) :
    Calls Tryd.prog 53 #[.int .i64 (k : Int), .pointer (some ⟨pb, 0, none⟩), .pointer (some ⟨pa, 0, none⟩)] w fun e w' => e = .returned (.int .u8 (gf_Sum.at_ a b k)) ∧ Drawn0 w w' := by
  have i0 : (0 : Int) ≤ (k : Int) := by omega
  have i1 : (k : Int) < (a.size : Int) := by omega
  by_cases hlt : k < b.size
  · have hd : decide ((k : Int) < (b.size : Int)) = true := decide_eq_true (by omega)
    have hd' : (k : Int) < (b.size : Int) := by omega
    have Hat : Aside0 (gf_Sum.at_ a b k = Go.bits .xor .u8 ((a[k]'hk).toNat : Int) ((b[k]'hlt).toNat : Int)) := ⟨by rw [bt_nat a k hk, bt_nat b k hlt]; exact if_pos hlt⟩
    go_enter Tryd.func53, Tryd.ntmps53
    go_wp2
    go_quiet (fail)
    go_wp2
    go_ret
    exact ⟨by rw [Hat.out]; rfl, ⟨⟨nq, rfl⟩⟩⟩
  · have hd : decide ((k : Int) < (b.size : Int)) = false := decide_eq_false (by omega)
    have Hat : Aside0 (gf_Sum.at_ a b k = ((a[k]'hk).toNat : Int)) := ⟨by rw [bt_nat a k hk]; exact if_neg hlt⟩
    go_enter Tryd.func53, Tryd.ntmps53
    go_wp2
    go_ret
    exact ⟨by rw [Hat.out]; rfl, Drawn0.refl _⟩
theorem gf_Sum.calls (a0 a1 : ByteArray) (r : ByteArray) (w : World) (h : gf_Sum.f a0 a1 = some r) :
    Calls Tryd.prog 26 #[.string a0, .string a1] w fun e w' => e = .returned (.string r) ∧ Below w.heap.size w w' := by
  have H : (if a0.size ≤ 140737488351232 then (if a1.size ≤ 140737488351232 then (if a0.size < a1.size then some (strOfNums ((List.range a1.size).map (gf_Sum.at_ a1 a0))) else some (strOfNums ((List.range a0.size).map (gf_Sum.at_ a0 a1)))) else none) else none) = some r := h
  clear h
  by_cases h0 : a0.size ≤ 140737488351232
  · by_cases h1 : a1.size ≤ 140737488351232
    · rw [if_pos h0, if_pos h1] at H
      have hmf : ∀ (fn : Fn) (first cap : Array Value) (w : World), (Instr.makeFunc fn first cap).run Tryd.prog w = .ok (.func fn first cap) w := fun _ _ _ _ => rfl
      by_cases h2 : a0.size < a1.size
      · rw [if_pos h2] at H
        obtain rfl := Option.some.inj H
        clear H
        have hd : decide (a0.size < a1.size) = true := decide_eq_true h2
        go_enter Tryd.func26, Tryd.ntmps26
        go_wp2_with fail
        refine (gf_build.calls a1.size 53 #[.pointer (some ⟨w.heap.size + 1, 0, none⟩), .pointer (some ⟨w.heap.size, 0, none⟩)] (gf_Sum.at_ a1 a0) _ h1 (enters_fn Tryd.func53 (by kernel_rfl) rfl) ?hcl).mono ?_
        case hcl =>
          intro k hk W hb
          exact gf_Sum_1.calls a1 a0 w.heap.size (w.heap.size + 1) k W ((hb.cell (p := ⟨w.heap.size, 0, none⟩) (by simp; omega)).trans (by simp [go_sem])) ((hb.cell (p := ⟨w.heap.size + 1, 0, none⟩) (by simp)).trans (by simp [go_sem])) hk (by omega) (by omega)
        rintro e w' ⟨rfl, hb⟩
        have hB := Aside0.mk ((((Below.refl w.heap.size w).alloc (Nat.le_refl _) _).alloc (by simp) _).trans (hb.mono (by simp; omega)))
        clear hb
        go_wp2
        go_ret
        exact ⟨rfl, hB.out⟩
      · rw [if_neg h2] at H
        obtain rfl := Option.some.inj H
        clear H
        have hd : decide (a0.size < a1.size) = false := decide_eq_false h2
        go_enter Tryd.func26, Tryd.ntmps26
        go_wp2_with fail
        refine (gf_build.calls a0.size 53 #[.pointer (some ⟨w.heap.size + 1, 0, none⟩), .pointer (some ⟨w.heap.size, 0, none⟩)] (gf_Sum.at_ a0 a1) _ h0 (enters_fn Tryd.func53 (by kernel_rfl) rfl) ?hcl).mono ?_
        case hcl =>
          intro k hk W hb
          exact gf_Sum_1.calls a0 a1 w.heap.size (w.heap.size + 1) k W ((hb.cell (p := ⟨w.heap.size, 0, none⟩) (by simp; omega)).trans (by simp [go_sem])) ((hb.cell (p := ⟨w.heap.size + 1, 0, none⟩) (by simp)).trans (by simp [go_sem])) hk (by omega) (by omega)
        rintro e w' ⟨rfl, hb⟩
        have hB := Aside0.mk ((((Below.refl w.heap.size w).alloc (Nat.le_refl _) _).alloc (by simp) _).trans (hb.mono (by simp; omega)))
        clear hb
        go_wp2
        go_ret
        exact ⟨rfl, hB.out⟩
    · rw [if_pos h0, if_neg h1] at H; cases H
  · rw [if_neg h0] at H; cases H


end Go.Proofs.YtgfnllaajaoljaaDoor.QA
