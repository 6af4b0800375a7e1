-- What this claim does not use was left out by prune.py, a program of this session.
import Derived.Test.YtgfnllaajaoljaaDoorQA0
import Derived.Test.YtgfnllaajaoljaaDoorQA2
namespace Go.Proofs.YtgfnllaajaoljaaDoor.QA
open Go.RowKit Go.Proofs.YtgfnllaajaoljaaDoorW.PrintWords Go.Proofs.YtgfnllaajaoljaaDoorW.PrintLast Go.Proofs.YtgfnllaajaoljaaDoorW.PrintMore
attribute [local go_sem] max2_int min2_int max_two min_two max_three min_three max_four min_four
set_option linter.unusedVariables false
set_option linter.unusedSimpArgs false
def combN (coef : List Int) (parts : List ByteArray) (k : Nat) : Nat → Nat
  | 0 => 0
  | i + 1 => combN coef parts k i ^^^ gmul (rd coef i).toNat (bt (rdOf ByteArray.empty parts i) k).toNat
def gf_Combine.bytes (coef : List Int) : Bool := coef.all fun c => decide (0 ≤ c) && decide (c < 256)
def gf_Combine.len (parts : List ByteArray) : Nat := (rdOf ByteArray.empty parts 0).size
def gf_Combine.even (parts : List ByteArray) : Bool := parts.all fun s => decide (s.size = gf_Combine.len parts)
def gf_Combine.f (l0 : List Int) (l1 : List ByteArray) : Option (ByteArray × Int) :=
  if l0.length = l1.length then (if gf_Combine.even l1 = true then (if gf_Combine.bytes l0 = true ∧ gf_Combine.len l1 ≤ 140737488351232 then some (strOfNums ((List.range (gf_Combine.len l1)).map fun k => ((combN l0 l1 k l0.length : Nat) : Int)), 0) else none) else some (⟨#[]⟩, 1)) else some (⟨#[]⟩, 1)
theorem combN_lt (coef : List Int) (parts : List ByteArray) (k i : Nat) (hb : gf_Combine.bytes coef = true) : combN coef parts k i < 256 := by
  induction i with
  | zero => simp [combN]
  | succ i ih =>
    refine Nat.xor_lt_two_pow (n := 8) ih (gmul_lt _ _ ?_)
    unfold rd
    rw [Int.toNat_natCast, List.getD_eq_getElem?_getD]
    rcases Nat.lt_or_ge i coef.length with h | h
    · rw [List.getElem?_eq_getElem h]
      have := List.all_eq_true.1 hb coef[i] (List.getElem_mem h)
      simp at this ⊢
      omega
    · rw [List.getElem?_eq_none h]; simp
theorem rd_byte {coef : List Int} (hb : gf_Combine.bytes coef = true) (i : Int) : 0 ≤ rd coef i ∧ rd coef i < 256 := by
  unfold rd
  rw [List.getD_eq_getElem?_getD]
  rcases Nat.lt_or_ge i.toNat coef.length with h | h
  · rw [List.getElem?_eq_getElem h]
    have := List.all_eq_true.1 hb coef[i.toNat] (List.getElem_mem h)
    simp at this ⊢
    omega
  · rw [List.getElem?_eq_none h]; simp
theorem gf_Combine_1h.calls (A0 A1 : Option Addr) (c0 c1 : Nat) (l0 : List Int) (l1 : List ByteArray) (p0 p1 : Nat) (k : Nat) (w : World) (h0 : w.cell? ⟨p0, 0, none⟩ = some (.slice A0 l0.length c0)) (h1 : w.cell? ⟨p1, 0, none⟩ = some (.slice A1 l1.length c1))
    (hr0 : Kd.C (Kd.int .u8) w A0 l0.length l0) (hr1 : Kd.C Kd.string w A1 l1.length l1) (hl : l0.length = l1.length) (he : gf_Combine.even l1 = true) (hb : gf_Combine.bytes l0 = true) (hk : k < gf_Combine.len l1) (hmax : gf_Combine.len l1 ≤ 140737488351232)
    (hrG : Kd.C (Kd.int .u8) w (some ⟨0, 0, none⟩) 16 highTbl) :
    Calls Tryd.prog 52 #[.int .i64 (k : Int), .pointer (some ⟨p0, 0, none⟩), .pointer (some ⟨p1, 0, none⟩)] w fun e w' => e = .returned (.int .u8 ((combN l0 l1 k l0.length : Nat) : Int)) ∧ Drawn0 w w' := by
  have HRG := Aside0.mk hrG
  have HR0 := Aside0.mk hr0
  have HR1 := Aside0.mk hr1
  have HL := Aside0.mk hl
  have HK := Aside0.mk hk
  have hmx := Kd.C_max hr0
  clear hrG hr0 hr1 hl hk
  go_enter Tryd.func52, Tryd.ntmps52
  go_wp2
  go_loopw [5, 10] (fun v5 v10 wr => ∃ i : Nat, i ≤ l0.length ∧ v10 = .int .i64 (i : Int) ∧ v5 = .int .u8 ((combN l0 l1 k i : Nat) : Int) ∧ Drawn0 w wr) (fun _ v10 _ => l0.length - (intOf v10).toNat)
  case atStart => exact ⟨0, Nat.zero_le _, rfl, rfl, Drawn0.refl _⟩
  case round =>
    obtain ⟨i, hi, rfl, rfl, ⟨nd, rfl⟩⟩ := hrel
    by_cases hlt : i < l0.length
    · have hd : decide ((i : Int) < (l0.length : Int)) = true := decide_eq_true (by omega)
      have hp0 : (0 : Int) ≤ (i : Int) := by omega
      obtain ⟨ad0, e0, hx0⟩ := Kd.at_int HR0.out (i : Int) hp0 (by omega)
      obtain ⟨ad1, e1, hx1⟩ := Kd.at_string HR1.out (i : Int) hp0 (by have := HL.out; omega)
      cases e0
      cases e1
      rw [Int.toNat_natCast] at hx0 hx1
      have hsz : (rdOf ByteArray.empty l1 (i : Int)).size = gf_Combine.len l1 := by
        have hi1 : i < l1.length := by have := HL.out; omega
        unfold rdOf
        rw [Int.toNat_natCast, List.getD_eq_getElem?_getD, List.getElem?_eq_getElem hi1]
        have := List.all_eq_true.1 he l1[i] (List.getElem_mem hi1)
        simpa using this
      have hkk : k < (rdOf ByteArray.empty l1 (i : Int)).size := by rw [hsz]; exact HK.out
      have hk0 : (0 : Int) ≤ (k : Int) := by omega
      have hk1 : (k : Int) < ((rdOf ByteArray.empty l1 (i : Int)).size : Int) := by omega
      have hi2 : (i : Int) < (l1.length : Int) := by have := HL.out; omega
      have hi3 : (i : Int) < (l0.length : Int) := by omega
      have hmb := rd_byte hb (i : Int)
      have hm : Aside0 (gf_MulW.f (rd l0 (i : Int)) (((rdOf ByteArray.empty l1 (i : Int))[k]'hkk).toNat : Int) = some ((gmul (rd l0 (i : Int)).toNat (bt (rdOf ByteArray.empty l1 (i : Int)) k).toNat : Nat) : Int)) := ⟨by
        have hbb := bt_range (rdOf ByteArray.empty l1 (i : Int)) (k : Int)
        rw [bt_nat _ k hkk]
        unfold gf_MulW.f
        rw [if_pos ⟨hmb.1, hmb.2, hbb.1, by omega⟩]⟩
      have HX : Aside0 (Go.bits .xor .u8 ((combN l0 l1 k i : Nat) : Int) ((gmul (rd l0 (i : Int)).toNat (bt (rdOf ByteArray.empty l1 (i : Int)) k).toNat : Nat) : Int) = ((combN l0 l1 k (i + 1) : Nat) : Int)) :=
        ⟨xor8 _ _ (combN_lt l0 l1 k i hb) (gmul_lt _ _ (by omega))⟩
      have HSZ := Aside0.mk hsz
      clear hsz
      go_wp2_with (go_at_call 16; (with_reducible refine (gf_MulW.calls _ _ _ _ ?sideG hm.out).mono ?_); (case sideG => repeat (first | exact HRG.out | (with_reducible refine Kd.C_drewN ?_ _) | (with_reducible refine Kd.C_drew ?_))); rintro e w' ⟨rfl, ⟨nd2, rfl⟩⟩)
      go_wp2
      go_roundw
      case rel => exact ⟨i + 1, by omega, by go_num, by rw [HX.out], ⟨⟨_, rfl⟩⟩⟩
      case measure => simp [intOf]; omega
    · have hd : decide ((i : Int) < (l0.length : Int)) = false := decide_eq_false (by omega)
      obtain rfl : i = l0.length := by omega
      go_wp2
      go_ret
      exact ⟨rfl, ⟨⟨_, rfl⟩⟩⟩
theorem even_all {l1 : List ByteArray} (h : ∀ j, j < l1.length → (rdOf ByteArray.empty l1 (j : Int)).size = gf_Combine.len l1) : gf_Combine.even l1 = true := by
  refine List.all_eq_true.2 fun s hs => ?_
  obtain ⟨j, hj, rfl⟩ := List.mem_iff_getElem.1 hs
  have := h j hj
  unfold rdOf at this
  rw [Int.toNat_natCast, List.getD_eq_getElem?_getD, List.getElem?_eq_getElem hj] at this
  simpa using this
theorem even_at {l1 : List ByteArray} (he : gf_Combine.even l1 = true) (j : Nat) (hj : j < l1.length) : (rdOf ByteArray.empty l1 (j : Int)).size = gf_Combine.len l1 := by
  unfold rdOf
  rw [Int.toNat_natCast, List.getD_eq_getElem?_getD, List.getElem?_eq_getElem hj]
  have := List.all_eq_true.1 he l1[j] (List.getElem_mem hj)
  simpa using this
theorem gf_Combine.calls (A0 : Option Addr) (c0 : Nat) (l0 : List Int) (A1 : Option Addr) (c1 : Nat) (l1 : List ByteArray) (r1 : ByteArray) (r2 : Int) (w : World) (hr0 : Kd.C (Kd.int .u8) w A0 l0.length l0) (hc0 : l0.length ≤ c0) (hr1 : Kd.C Kd.string w A1 l1.length l1) (hc1 : l1.length ≤ c1)
    (hrG : Kd.C (Kd.int .u8) w (some ⟨0, 0, none⟩) 16 highTbl) (h : gf_Combine.f l0 l1 = some (r1, r2)) :
    Calls Tryd.prog 24 #[.slice A0 l0.length c0, .slice A1 l1.length c1] w fun e w' => e = .returned (.tuple #[.string r1, .int .i64 r2]) ∧ Below w.heap.size w w' := by
  have H : (if l0.length = l1.length then (if gf_Combine.even l1 = true then (if gf_Combine.bytes l0 = true ∧ gf_Combine.len l1 ≤ 140737488351232 then some (strOfNums ((List.range (gf_Combine.len l1)).map fun k => ((combN l0 l1 k l0.length : Nat) : Int)), 0) else none) else some (⟨#[]⟩, 1)) else some (⟨#[]⟩, 1)) = some (r1, r2) := h
  clear h
  have HRG := Aside0.mk hrG
  have HR0 := Aside0.mk hr0
  have HR1 := Aside0.mk hr1
  have hmx := Kd.C_max hr1
  clear hrG hr0 hr1
  have hmf : ∀ (fn : Fn) (first cap : Array Value) (w : World), (Instr.makeFunc fn first cap).run Tryd.prog w = .ok (.func fn first cap) w := fun _ _ _ _ => rfl
  have HBB : Aside0 (Below w.heap.size w ((w.alloc (.cells #[.slice A0 l0.length c0] 36)).alloc (.cells #[.slice A1 l1.length c1] 37))) := ⟨((Below.refl w.heap.size w).alloc (Nat.le_refl _) _).alloc (by simp) _⟩
  by_cases hl : l0.length = l1.length
  · rw [if_pos hl] at H
    have hd : (l0.length == l1.length) = true := by simpa using hl
    have hd2 : ((l0.length : Int) != (l1.length : Int)) = false := by simp [hl]
    have HL := Aside0.mk hl
    clear hl
    by_cases he : gf_Combine.even l1 = true
    · rw [if_pos he] at H
      by_cases hb : gf_Combine.bytes l0 = true ∧ gf_Combine.len l1 ≤ 140737488351232
      · rw [if_pos hb] at H
        obtain ⟨rfl, rfl⟩ := Prod.mk.inj (Option.some.inj H)
        clear H
        obtain ⟨hb, hmax⟩ := hb
        have HEV := Aside0.mk he
        have HBY := Aside0.mk hb
        clear he hb
        go_enter Tryd.func24, Tryd.ntmps24
        go_wp2
        go_loop [6, 16] (fun v6 v16 => ∃ i : Nat, i ≤ l1.length ∧ v16 = .int .i64 (i : Int) ∧ v6 = .int .i64 (if i = 0 then 0 else (gf_Combine.len l1 : Int)) ∧ Aside0 (∀ j, j < i → (rdOf ByteArray.empty l1 (j : Int)).size = gf_Combine.len l1)) (fun _ v16 => l1.length - (intOf v16).toNat)
        case atStart => exact ⟨0, Nat.zero_le _, rfl, rfl, ⟨fun j hj => absurd hj (by omega)⟩⟩
        case round =>
          obtain ⟨i, hi, rfl, rfl, HP⟩ := hrel
          by_cases hlt : i < l1.length
          · have hd3 : decide ((i : Int) < (l1.length : Int)) = true := decide_eq_true (by omega)
            have hp0 : (0 : Int) ≤ (i : Int) := by omega
            have hp1 : (i : Int) < (l1.length : Int) := by omega
            obtain ⟨ad1, e1, hx1⟩ := Kd.at_string HR1.out (i : Int) hp0 (by omega)
            cases e1
            rw [Int.toNat_natCast] at hx1
            have hx2 := (HBB.out.cell (World.block_lt_of_cell? w _ hx1)).trans hx1
            by_cases hi0 : i = 0
            · subst hi0
              have hz : (((0 : Nat) : Int) == 0) = true := rfl
              rw [Addr.add_zero'] at hx2
              have hs : (rdOf ByteArray.empty l1 ((0 : Nat) : Int)).size = gf_Combine.len l1 := rfl
              have HS := Aside0.mk hs
              clear hs
              go_wp2
              go_round
              case rel =>
                refine ⟨1, by omega, by go_num, by rw [← HS.out]; rfl, ⟨fun j hj => ?_⟩⟩
                obtain rfl : j = 0 := by omega
                exact HS.out
              case measure => simp [intOf]; omega
            · rw [if_neg hi0]
              have hz : ((i : Int) == 0) = false := by simp; omega
              have hs := even_at HEV.out i hlt
              have hq : ((rdOf ByteArray.empty l1 (i : Int)).size == gf_Combine.len l1) = true := by simpa using hs
              have hq2 : (((rdOf ByteArray.empty l1 (i : Int)).size : Int) != (gf_Combine.len l1 : Int)) = false := by simp [hs]
              have HS := Aside0.mk hs
              clear hs
              go_wp2
              go_round
              case rel =>
                refine ⟨i + 1, by omega, by go_num, by rw [if_neg (by omega)], ⟨fun j hj => ?_⟩⟩
                rcases Nat.lt_or_ge j i with h1 | h1
                · exact HP.out j h1
                · obtain rfl : j = i := by omega
                  exact HS.out
              case measure => simp [intOf]; omega
          · have hd3 : decide ((i : Int) < (l1.length : Int)) = false := decide_eq_false (by omega)
            obtain rfl : i = l1.length := by omega
            have hn : (if l1.length = 0 then (0 : Int) else (gf_Combine.len l1 : Int)) = (gf_Combine.len l1 : Int) := by
              split
              · rename_i h0
                have : l1 = [] := List.eq_nil_of_length_eq_zero h0
                subst this
                rfl
              · rfl
            rw [hn]
            clear hn HP
            go_wp2_with fail
            refine (gf_build.calls (gf_Combine.len l1) 52 #[.pointer (some ⟨w.heap.size, 0, none⟩), .pointer (some ⟨w.heap.size + 1, 0, none⟩)] (fun k => ((combN l0 l1 k l0.length : Nat) : Int)) _ hmax (enters_fn Tryd.func52 (by kernel_rfl) rfl) ?hcl).mono ?_
            case hcl =>
              intro k hk W hb
              refine gf_Combine_1h.calls A0 A1 c0 c1 l0 l1 w.heap.size (w.heap.size + 1) k W ((hb.cell (p := ⟨w.heap.size, 0, none⟩) (by simp; omega)).trans (by simp [go_sem])) ((hb.cell (p := ⟨w.heap.size + 1, 0, none⟩) (by simp)).trans (by simp [go_sem])) ?_ ?_ HL.out HEV.out HBY.out hk hmax ?_
              · exact Kd.C_below (Kd.C_alloc (Kd.C_alloc HR0.out _) _) hb
              · exact Kd.C_below (Kd.C_alloc (Kd.C_alloc HR1.out _) _) hb
              · exact Kd.C_below (Kd.C_alloc (Kd.C_alloc HRG.out _) _) hb
            rintro e w' ⟨rfl, hb⟩
            have hB := Aside0.mk (HBB.out.trans (hb.mono (by simp; omega)))
            clear hb
            go_wp2
            go_ret2
            exact ⟨rfl, hB.out⟩
      · rw [if_neg hb] at H; cases H
    · rw [if_neg he] at H
      obtain ⟨rfl, rfl⟩ := Prod.mk.inj (Option.some.inj H)
      clear H
      have HEV := Aside0.mk he
      clear he
      go_enter Tryd.func24, Tryd.ntmps24
      go_wp2
      go_loop [6, 16] (fun v6 v16 => ∃ i : Nat, i ≤ l1.length ∧ v16 = .int .i64 (i : Int) ∧ v6 = .int .i64 (if i = 0 then 0 else (gf_Combine.len l1 : Int)) ∧ Aside0 (∀ j, j < i → (rdOf ByteArray.empty l1 (j : Int)).size = gf_Combine.len l1)) (fun _ v16 => l1.length - (intOf v16).toNat)
      case atStart => exact ⟨0, Nat.zero_le _, rfl, rfl, ⟨fun j hj => absurd hj (by omega)⟩⟩
      case round =>
        obtain ⟨i, hi, rfl, rfl, HP⟩ := hrel
        by_cases hlt : i < l1.length
        · have hd3 : decide ((i : Int) < (l1.length : Int)) = true := decide_eq_true (by omega)
          have hp0 : (0 : Int) ≤ (i : Int) := by omega
          have hp1 : (i : Int) < (l1.length : Int) := by omega
          obtain ⟨ad1, e1, hx1⟩ := Kd.at_string HR1.out (i : Int) hp0 (by omega)
          cases e1
          rw [Int.toNat_natCast] at hx1
          have hx2 := (HBB.out.cell (World.block_lt_of_cell? w _ hx1)).trans hx1
          by_cases hi0 : i = 0
          · subst hi0
            have hz : (((0 : Nat) : Int) == 0) = true := rfl
            rw [Addr.add_zero'] at hx2
            have hs : (rdOf ByteArray.empty l1 ((0 : Nat) : Int)).size = gf_Combine.len l1 := rfl
            have HS := Aside0.mk hs
            clear hs
            go_wp2
            go_round
            case rel =>
              refine ⟨1, by omega, by go_num, by rw [← HS.out]; rfl, ⟨fun j hj => ?_⟩⟩
              obtain rfl : j = 0 := by omega
              exact HS.out
            case measure => simp [intOf]; omega
          · rw [if_neg hi0]
            have hz : ((i : Int) == 0) = false := by simp; omega
            by_cases hs : (rdOf ByteArray.empty l1 (i : Int)).size = gf_Combine.len l1
            · have hq : ((rdOf ByteArray.empty l1 (i : Int)).size == gf_Combine.len l1) = true := by simpa using hs
              have hq2 : (((rdOf ByteArray.empty l1 (i : Int)).size : Int) != (gf_Combine.len l1 : Int)) = false := by simp [hs]
              have HS := Aside0.mk hs
              clear hs
              go_wp2
              go_round
              case rel =>
                refine ⟨i + 1, by omega, by go_num, by rw [if_neg (by omega)], ⟨fun j hj => ?_⟩⟩
                rcases Nat.lt_or_ge j i with h1 | h1
                · exact HP.out j h1
                · obtain rfl : j = i := by omega
                  exact HS.out
              case measure => simp [intOf]; omega
            · have hq : ((rdOf ByteArray.empty l1 (i : Int)).size == gf_Combine.len l1) = false := by simpa using hs
              have hq2 : (((rdOf ByteArray.empty l1 (i : Int)).size : Int) != (gf_Combine.len l1 : Int)) = true := by simp; omega
              clear hs
              go_wp2
              go_ret2
              exact ⟨rfl, HBB.out⟩
        · have hd3 : decide ((i : Int) < (l1.length : Int)) = false := decide_eq_false (by omega)
          obtain rfl : i = l1.length := by omega
          exact absurd (even_all HP.out) HEV.out
  · rw [if_neg hl] at H
    obtain ⟨rfl, rfl⟩ := Prod.mk.inj (Option.some.inj H)
    have hd : (l0.length == l1.length) = false := by simpa using hl
    have hd2 : ((l0.length : Int) != (l1.length : Int)) = true := by simp; omega
    go_enter Tryd.func24, Tryd.ntmps24
    go_wp2
    go_ret2
    exact ⟨rfl, HBB.out⟩
def gf_Sum.at_ (a b : ByteArray) (k : Nat) : Int := if k < b.size then Go.bits .xor .u8 (bt a k) (bt b k) else bt a k
def gf_Sum.f (a0 a1 : ByteArray) : Option ByteArray :=
  if a0.size ≤ 140737488351232 then (if a1.size ≤ 140737488351232 then (if a0.size < a1.size then some (strOfNums ((List.range a1.size).map (gf_Sum.at_ a1 a0))) else some (strOfNums ((List.range a0.size).map (gf_Sum.at_ a0 a1)))) else none) else none
theorem gf_Sum_1h.calls (a b : ByteArray) (pa pb : Nat) (k : Nat) (w : World) (ha : w.cell? ⟨pa, 0, none⟩ = some (.string a)) (hb : w.cell? ⟨pb, 0, none⟩ = some (.string b)) (hk : k < a.size) (hmax : a.size ≤ 140737488351232) (hmax2 : b.size ≤ 140737488351232) :
    Calls Tryd.prog 53 #[.int .i64 (k : Int), .pointer (some ⟨pb, 0, none⟩), .pointer (some ⟨pa, 0, none⟩)] w fun e w' => e = .returned (.int .u8 (gf_Sum.at_ a b k)) ∧ Drawn0 w w' := by
  have i0 : (0 : Int) ≤ (k : Int) := by omega
  have i1 : (k : Int) < (a.size : Int) := by omega
  by_cases hlt : k < b.size
  · have hd : decide ((k : Int) < (b.size : Int)) = true := decide_eq_true (by omega)
    have hd' : (k : Int) < (b.size : Int) := by omega
    have Hat : Aside0 (gf_Sum.at_ a b k = Go.bits .xor .u8 ((a[k]'hk).toNat : Int) ((b[k]'hlt).toNat : Int)) := ⟨by rw [bt_nat a k hk, bt_nat b k hlt]; exact if_pos hlt⟩
    go_enter Tryd.func53, Tryd.ntmps53
    go_wp2
    go_quiet (fail)
    go_wp2
    go_ret
    exact ⟨by rw [Hat.out]; rfl, ⟨⟨nq, rfl⟩⟩⟩
  · have hd : decide ((k : Int) < (b.size : Int)) = false := decide_eq_false (by omega)
    have Hat : Aside0 (gf_Sum.at_ a b k = ((a[k]'hk).toNat : Int)) := ⟨by rw [bt_nat a k hk]; exact if_neg hlt⟩
    go_enter Tryd.func53, Tryd.ntmps53
    go_wp2
    go_ret
    exact ⟨by rw [Hat.out]; rfl, Drawn0.refl _⟩
theorem gf_Sum.calls (a0 a1 : ByteArray) (r : ByteArray) (w : World) (h : gf_Sum.f a0 a1 = some r) :
    Calls Tryd.prog 26 #[.string a0, .string a1] w fun e w' => e = .returned (.string r) ∧ Below w.heap.size w w' := by
  have H : (if a0.size ≤ 140737488351232 then (if a1.size ≤ 140737488351232 then (if a0.size < a1.size then some (strOfNums ((List.range a1.size).map (gf_Sum.at_ a1 a0))) else some (strOfNums ((List.range a0.size).map (gf_Sum.at_ a0 a1)))) else none) else none) = some r := h
  clear h
  by_cases h0 : a0.size ≤ 140737488351232
  · by_cases h1 : a1.size ≤ 140737488351232
    · rw [if_pos h0, if_pos h1] at H
      have hmf : ∀ (fn : Fn) (first cap : Array Value) (w : World), (Instr.makeFunc fn first cap).run Tryd.prog w = .ok (.func fn first cap) w := fun _ _ _ _ => rfl
      by_cases h2 : a0.size < a1.size
      · rw [if_pos h2] at H
        obtain rfl := Option.some.inj H
        clear H
        have hd : decide (a0.size < a1.size) = true := decide_eq_true h2
        go_enter Tryd.func26, Tryd.ntmps26
        go_wp2_with fail
        refine (gf_build.calls a1.size 53 #[.pointer (some ⟨w.heap.size + 1, 0, none⟩), .pointer (some ⟨w.heap.size, 0, none⟩)] (gf_Sum.at_ a1 a0) _ h1 (enters_fn Tryd.func53 (by kernel_rfl) rfl) ?hcl).mono ?_
        case hcl =>
          intro k hk W hb
          exact gf_Sum_1h.calls a1 a0 w.heap.size (w.heap.size + 1) k W ((hb.cell (p := ⟨w.heap.size, 0, none⟩) (by simp; omega)).trans (by simp [go_sem])) ((hb.cell (p := ⟨w.heap.size + 1, 0, none⟩) (by simp)).trans (by simp [go_sem])) hk (by omega) (by omega)
        rintro e w' ⟨rfl, hb⟩
        have hB := Aside0.mk ((((Below.refl w.heap.size w).alloc (Nat.le_refl _) _).alloc (by simp) _).trans (hb.mono (by simp; omega)))
        clear hb
        go_wp2
        go_ret
        exact ⟨rfl, hB.out⟩
      · rw [if_neg h2] at H
        obtain rfl := Option.some.inj H
        clear H
        have hd : decide (a0.size < a1.size) = false := decide_eq_false h2
        go_enter Tryd.func26, Tryd.ntmps26
        go_wp2_with fail
        refine (gf_build.calls a0.size 53 #[.pointer (some ⟨w.heap.size + 1, 0, none⟩), .pointer (some ⟨w.heap.size, 0, none⟩)] (gf_Sum.at_ a0 a1) _ h0 (enters_fn Tryd.func53 (by kernel_rfl) rfl) ?hcl).mono ?_
        case hcl =>
          intro k hk W hb
          exact gf_Sum_1h.calls a0 a1 w.heap.size (w.heap.size + 1) k W ((hb.cell (p := ⟨w.heap.size, 0, none⟩) (by simp; omega)).trans (by simp [go_sem])) ((hb.cell (p := ⟨w.heap.size + 1, 0, none⟩) (by simp)).trans (by simp [go_sem])) hk (by omega) (by omega)
        rintro e w' ⟨rfl, hb⟩
        have hB := Aside0.mk ((((Below.refl w.heap.size w).alloc (Nat.le_refl _) _).alloc (by simp) _).trans (hb.mono (by simp; omega)))
        clear hb
        go_wp2
        go_ret
        exact ⟨rfl, hB.out⟩
    · rw [if_pos h0, if_neg h1] at H; cases H
  · rw [if_neg h0] at H; cases H
def quietuslaw04_sanity.j0 : Nat → Int → Int → Int → Int → ByteArray → Int → Bool → Option (Bool)
  | 0, _, _, _, _, _, _, _ => none
  | k + 1, x7, x8, x9, x10, x11, x12, x13 => (gf_Exp.f k 8).bind fun t134 => (if t134 = 29 then ((gf_Exp.f k (-1)).bind fun t135 => (if t135 = 142 then ((gf_Exp.f k 255).bind fun t136 => (if t136 = 1 then (if x7 = 8 then (if x8 = 0 then (if x9 = 25 then (if x10 = 0 then ((gf_Pow.f k 3 2).bind fun t137 => (if t137 = 5 then ((gf_Pow.f k 0 0).bind fun t138 => (if t138 = 1 then ((gf_Pow.f k 0 (-5)).bind fun t139 => (if x13 = true then (if t139 = 0 then ((gf_Sum.f (⟨#[97, 98]⟩ : ByteArray) (⟨#[97]⟩ : ByteArray)).bind fun t140 => (if t140.toList = ([0, 98] : List UInt8) then (if x11.toList = ([24, 4] : List UInt8) then (some (x12 == 0)) else (none)) else (none))) else (none)) else (none))) else (none))) else (none))) else (none)) else (none)) else (none)) else (none)) else (none))) else (none))) else (none))
def quietuslaw04_sanity.f (k : Nat)  : Option (Bool) := (gf_Inv.f k 2).bind fun bt114 => ((gf_Inv.f k 1).bind fun bt116 => ((gf_Inv.f k 0).bind fun bt118 => ((gf_Log.f k 29).bind fun bt120 => ((gf_Log.f k 3).bind fun bt122 => ((gf_Combine.f (([1, 2] : List Int)) (([(⟨#[5, 6]⟩ : ByteArray), (⟨#[128, 1]⟩ : ByteArray)] : List ByteArray))).bind fun bt130 => ((gf_MulW.f 2 128).bind fun t132 => (if t132 = 29 then ((gf_MulW.f 3 7).bind fun t133 => (if t133 = 9 then (if bt114.1 = 142 then (if bt114.2 = 0 then (if bt116.1 = 1 then (if bt116.2 = 0 then (quietuslaw04_sanity.j0 k bt120.1 bt120.2 bt122.1 bt122.2 bt130.1 bt130.2 (bt118.2 == 1)) else (none)) else (none)) else (none)) else (none)) else (none))) else (none))))))))
theorem quietuslaw04_sanity.mono_l : ∀ k, (∀ y0 y1 y2 y3 y4 y5 y6, LeO (quietuslaw04_sanity.j0 k y0 y1 y2 y3 y4 y5 y6) (quietuslaw04_sanity.j0 (k + 1) y0 y1 y2 y3 y4 y5 y6))
  | 0 => fun _ _ _ _ _ _ _ r h => by simp [quietuslaw04_sanity.j0] at h
  | k + 1 => by
    have ih0 := quietuslaw04_sanity.mono_l k
    · intro y0 y1 y2 y3 y4 y5 y6
      unfold quietuslaw04_sanity.j0
      repeat' first
      | (with_reducible exact ih0 _ _ _ _ _ _ _)
      | (with_reducible exact gf_Exp.mono _ _)
      | (with_reducible exact gf_Inv.mono _ _)
      | (with_reducible exact gf_Log.mono _ _)
      | (with_reducible exact gf_Pow.mono _ _ _)
      | (with_reducible exact LeO.refl _)
      | (with_reducible exact LeO.none _)
      | (with_reducible refine LeO.ite ?_ ?_)
      | (with_reducible refine LeO.bind ?_ (fun _ => ?_))
      | exact ih0 _ _ _ _ _ _ _
      | exact gf_Exp.mono _ _
      | exact gf_Inv.mono _ _
      | exact gf_Log.mono _ _
      | exact gf_Pow.mono _ _ _
      | exact LeO.none _
      | refine LeO.ite ?_ ?_
      | refine LeO.bind ?_ (fun _ => ?_)
theorem quietuslaw04_sanity.mono : ∀ k, LeO (quietuslaw04_sanity.f k ) (quietuslaw04_sanity.f (k + 1) ) := by
  intro  k
  have ih0 := quietuslaw04_sanity.mono_l k
  unfold quietuslaw04_sanity.f
  repeat' first
      | (with_reducible exact ih0 _ _ _ _ _ _ _)
      | (with_reducible exact gf_Exp.mono _ _)
      | (with_reducible exact gf_Inv.mono _ _)
      | (with_reducible exact gf_Log.mono _ _)
      | (with_reducible exact gf_Pow.mono _ _ _)
      | (with_reducible exact LeO.refl _)
      | (with_reducible exact LeO.none _)
      | (with_reducible refine LeO.ite ?_ ?_)
      | (with_reducible refine LeO.bind ?_ (fun _ => ?_))
      | exact ih0 _ _ _ _ _ _ _
      | exact gf_Exp.mono _ _
      | exact gf_Inv.mono _ _
      | exact gf_Log.mono _ _
      | exact gf_Pow.mono _ _ _
      | exact LeO.none _
      | refine LeO.ite ?_ ?_
      | refine LeO.bind ?_ (fun _ => ?_)
set_option maxHeartbeats 8000000 in
set_option maxRecDepth 100000 in
theorem quietuslaw04_sanity.calls (k : Nat)  (r : Bool) (w : World) (hrG : Kd.C (Kd.int .u8) w (some ⟨0, 0, none⟩) 16 highTbl) (h : quietuslaw04_sanity.f k  = some r) :
    Calls Tryd.prog 15 #[] w fun e w' => e = .returned (.bool r) ∧ Below w.heap.size w w' := by
  have HRG := Aside0.mk hrG
  clear hrG
  have HB := Aside0.mk (Below.refl w.heap.size w)
  have H : ((gf_Inv.f k 2).bind fun bt114 => ((gf_Inv.f k 1).bind fun bt116 => ((gf_Inv.f k 0).bind fun bt118 => ((gf_Log.f k 29).bind fun bt120 => ((gf_Log.f k 3).bind fun bt122 => ((gf_Combine.f (([1, 2] : List Int)) (([(⟨#[5, 6]⟩ : ByteArray), (⟨#[128, 1]⟩ : ByteArray)] : List ByteArray))).bind fun bt130 => ((gf_MulW.f 2 128).bind fun t132 => (if t132 = 29 then ((gf_MulW.f 3 7).bind fun t133 => (if t133 = 9 then (if bt114.1 = 142 then (if bt114.2 = 0 then (if bt116.1 = 1 then (if bt116.2 = 0 then (quietuslaw04_sanity.j0 k bt120.1 bt120.2 bt122.1 bt122.2 bt130.1 bt130.2 (bt118.2 == 1)) else (none)) else (none)) else (none)) else (none)) else (none))) else (none))))))))) = some r := h
  clear h
  replace H := Option.bind_eq_some_iff.mp H
  obtain ⟨⟨t114, t115⟩, A10, H⟩ := H
  replace H : ((gf_Inv.f k 1).bind fun bt116 => ((gf_Inv.f k 0).bind fun bt118 => ((gf_Log.f k 29).bind fun bt120 => ((gf_Log.f k 3).bind fun bt122 => ((gf_Combine.f (([1, 2] : List Int)) (([(⟨#[5, 6]⟩ : ByteArray), (⟨#[128, 1]⟩ : ByteArray)] : List ByteArray))).bind fun bt130 => ((gf_MulW.f 2 128).bind fun t132 => (if t132 = 29 then ((gf_MulW.f 3 7).bind fun t133 => (if t133 = 9 then (if t114 = 142 then (if t115 = 0 then (if bt116.1 = 1 then (if bt116.2 = 0 then (quietuslaw04_sanity.j0 k bt120.1 bt120.2 bt122.1 bt122.2 bt130.1 bt130.2 (bt118.2 == 1)) else (none)) else (none)) else (none)) else (none)) else (none))) else (none)))))))) = some r := H
  have A1 := Aside0.mk A10
  clear A10
  replace H := Option.bind_eq_some_iff.mp H
  obtain ⟨⟨t116, t117⟩, A20, H⟩ := H
  replace H : ((gf_Inv.f k 0).bind fun bt118 => ((gf_Log.f k 29).bind fun bt120 => ((gf_Log.f k 3).bind fun bt122 => ((gf_Combine.f (([1, 2] : List Int)) (([(⟨#[5, 6]⟩ : ByteArray), (⟨#[128, 1]⟩ : ByteArray)] : List ByteArray))).bind fun bt130 => ((gf_MulW.f 2 128).bind fun t132 => (if t132 = 29 then ((gf_MulW.f 3 7).bind fun t133 => (if t133 = 9 then (if t114 = 142 then (if t115 = 0 then (if t116 = 1 then (if t117 = 0 then (quietuslaw04_sanity.j0 k bt120.1 bt120.2 bt122.1 bt122.2 bt130.1 bt130.2 (bt118.2 == 1)) else (none)) else (none)) else (none)) else (none)) else (none))) else (none))))))) = some r := H
  have A2 := Aside0.mk A20
  clear A20
  replace H := Option.bind_eq_some_iff.mp H
  obtain ⟨⟨t118, t119⟩, A30, H⟩ := H
  replace H : ((gf_Log.f k 29).bind fun bt120 => ((gf_Log.f k 3).bind fun bt122 => ((gf_Combine.f (([1, 2] : List Int)) (([(⟨#[5, 6]⟩ : ByteArray), (⟨#[128, 1]⟩ : ByteArray)] : List ByteArray))).bind fun bt130 => ((gf_MulW.f 2 128).bind fun t132 => (if t132 = 29 then ((gf_MulW.f 3 7).bind fun t133 => (if t133 = 9 then (if t114 = 142 then (if t115 = 0 then (if t116 = 1 then (if t117 = 0 then (quietuslaw04_sanity.j0 k bt120.1 bt120.2 bt122.1 bt122.2 bt130.1 bt130.2 (t119 == 1)) else (none)) else (none)) else (none)) else (none)) else (none))) else (none)))))) = some r := H
  have A3 := Aside0.mk A30
  clear A30
  replace H := Option.bind_eq_some_iff.mp H
  obtain ⟨⟨t120, t121⟩, A40, H⟩ := H
  replace H : ((gf_Log.f k 3).bind fun bt122 => ((gf_Combine.f (([1, 2] : List Int)) (([(⟨#[5, 6]⟩ : ByteArray), (⟨#[128, 1]⟩ : ByteArray)] : List ByteArray))).bind fun bt130 => ((gf_MulW.f 2 128).bind fun t132 => (if t132 = 29 then ((gf_MulW.f 3 7).bind fun t133 => (if t133 = 9 then (if t114 = 142 then (if t115 = 0 then (if t116 = 1 then (if t117 = 0 then (quietuslaw04_sanity.j0 k t120 t121 bt122.1 bt122.2 bt130.1 bt130.2 (t119 == 1)) else (none)) else (none)) else (none)) else (none)) else (none))) else (none))))) = some r := H
  have A4 := Aside0.mk A40
  clear A40
  replace H := Option.bind_eq_some_iff.mp H
  obtain ⟨⟨t122, t123⟩, A50, H⟩ := H
  replace H : ((gf_Combine.f (([1, 2] : List Int)) (([(⟨#[5, 6]⟩ : ByteArray), (⟨#[128, 1]⟩ : ByteArray)] : List ByteArray))).bind fun bt130 => ((gf_MulW.f 2 128).bind fun t132 => (if t132 = 29 then ((gf_MulW.f 3 7).bind fun t133 => (if t133 = 9 then (if t114 = 142 then (if t115 = 0 then (if t116 = 1 then (if t117 = 0 then (quietuslaw04_sanity.j0 k t120 t121 t122 t123 bt130.1 bt130.2 (t119 == 1)) else (none)) else (none)) else (none)) else (none)) else (none))) else (none)))) = some r := H
  have A5 := Aside0.mk A50
  clear A50
  obtain ⟨y124, hy124⟩ : ∃ y_ : List Int, y_ = (([1, 2] : List Int)) := ⟨_, rfl⟩
  replace H : ((gf_Combine.f y124 (([(⟨#[5, 6]⟩ : ByteArray), (⟨#[128, 1]⟩ : ByteArray)] : List ByteArray))).bind fun bt130 => ((gf_MulW.f 2 128).bind fun t132 => (if t132 = 29 then ((gf_MulW.f 3 7).bind fun t133 => (if t133 = 9 then (if t114 = 142 then (if t115 = 0 then (if t116 = 1 then (if t117 = 0 then (quietuslaw04_sanity.j0 k t120 t121 t122 t123 bt130.1 bt130.2 (t119 == 1)) else (none)) else (none)) else (none)) else (none)) else (none))) else (none)))) = some r := by first | (rw [hy124]; with_reducible exact H) | (have H2_ := (Option.bind_some _ _).symm.trans H; rw [hy124]; with_reducible exact H2_) | (have H2_ := (Option.bind_some _ _).symm.trans H; with_reducible exact H2_) | with_reducible exact H | (rw [hy124]; exact H) | exact H
  have Ny124 := Aside0.mk hy124
  clear hy124
  obtain ⟨y127, hy127⟩ : ∃ y_ : List ByteArray, y_ = (([(⟨#[5, 6]⟩ : ByteArray), (⟨#[128, 1]⟩ : ByteArray)] : List ByteArray)) := ⟨_, rfl⟩
  replace H : ((gf_Combine.f y124 y127).bind fun bt130 => ((gf_MulW.f 2 128).bind fun t132 => (if t132 = 29 then ((gf_MulW.f 3 7).bind fun t133 => (if t133 = 9 then (if t114 = 142 then (if t115 = 0 then (if t116 = 1 then (if t117 = 0 then (quietuslaw04_sanity.j0 k t120 t121 t122 t123 bt130.1 bt130.2 (t119 == 1)) else (none)) else (none)) else (none)) else (none)) else (none))) else (none)))) = some r := by first | (rw [hy127]; with_reducible exact H) | (have H2_ := (Option.bind_some _ _).symm.trans H; rw [hy127]; with_reducible exact H2_) | (have H2_ := (Option.bind_some _ _).symm.trans H; with_reducible exact H2_) | with_reducible exact H | (rw [hy127]; exact H) | exact H
  have Ny127 := Aside0.mk hy127
  clear hy127
  replace H := Option.bind_eq_some_iff.mp H
  obtain ⟨⟨t130, t131⟩, A60, H⟩ := H
  replace H : ((gf_MulW.f 2 128).bind fun t132 => (if t132 = 29 then ((gf_MulW.f 3 7).bind fun t133 => (if t133 = 9 then (if t114 = 142 then (if t115 = 0 then (if t116 = 1 then (if t117 = 0 then (quietuslaw04_sanity.j0 k t120 t121 t122 t123 t130 t131 (t119 == 1)) else (none)) else (none)) else (none)) else (none)) else (none))) else (none))) = some r := H
  have A6 := Aside0.mk A60
  clear A60
  have HC7 := Aside0.mk H
  clear H
  go_enter Tryd.func15, Tryd.ntmps15
  go_upto_region 7 with (first | ((with_reducible refine gate_callee (f := 13) rfl ?_); refine goesL_ (some 16) rfl rfl Tryd.func13 (by kernel_rfl) rfl #[.int .u8 2] rfl (by (try simp only [List.map_toArray, List.map_cons, List.map_nil]); first | done | rfl | (simp only [List.length_drop, List.length_take]; rfl)) ?_; (with_reducible refine (gf_Inv.calls k 2 t114 t115 _ ?sideG A1.out).mono ?_); (case sideG => repeat (first | exact (Kd.C_below HRG.out HB.out) | exact HRG.out | (with_reducible refine Kd.C_alloc ?_ _) | (with_reducible refine Kd.C_drewN ?_ _) | (with_reducible refine Kd.C_drew ?_))); rintro e w' ⟨rfl, ⟨nd, rfl⟩⟩; refine ⟨_, rfl, ?_⟩) | ((with_reducible refine gate_callee (f := 13) rfl ?_); refine goesL_ (some 20) rfl rfl Tryd.func13 (by kernel_rfl) rfl #[.int .u8 1] rfl (by (try simp only [List.map_toArray, List.map_cons, List.map_nil]); first | done | rfl | (simp only [List.length_drop, List.length_take]; rfl)) ?_; (with_reducible refine (gf_Inv.calls k 1 t116 t117 _ ?sideG A2.out).mono ?_); (case sideG => repeat (first | exact (Kd.C_below HRG.out HB.out) | exact HRG.out | (with_reducible refine Kd.C_alloc ?_ _) | (with_reducible refine Kd.C_drewN ?_ _) | (with_reducible refine Kd.C_drew ?_))); rintro e w' ⟨rfl, ⟨nd, rfl⟩⟩; refine ⟨_, rfl, ?_⟩) | ((with_reducible refine gate_callee (f := 13) rfl ?_); refine goesL_ (some 24) rfl rfl Tryd.func13 (by kernel_rfl) rfl #[.int .u8 0] rfl (by (try simp only [List.map_toArray, List.map_cons, List.map_nil]); first | done | rfl | (simp only [List.length_drop, List.length_take]; rfl)) ?_; (with_reducible refine (gf_Inv.calls k 0 t118 t119 _ ?sideG A3.out).mono ?_); (case sideG => repeat (first | exact (Kd.C_below HRG.out HB.out) | exact HRG.out | (with_reducible refine Kd.C_alloc ?_ _) | (with_reducible refine Kd.C_drewN ?_ _) | (with_reducible refine Kd.C_drew ?_))); rintro e w' ⟨rfl, ⟨nd, rfl⟩⟩; refine ⟨_, rfl, ?_⟩) | ((with_reducible refine gate_callee (f := 14) rfl ?_); refine goesL_ (some 28) rfl rfl Tryd.func14 (by kernel_rfl) rfl #[.int .u8 29] rfl (by (try simp only [List.map_toArray, List.map_cons, List.map_nil]); first | done | rfl | (simp only [List.length_drop, List.length_take]; rfl)) ?_; (with_reducible refine (gf_Log.calls k 29 t120 t121 _ ?sideG A4.out).mono ?_); (case sideG => repeat (first | exact (Kd.C_below HRG.out HB.out) | exact HRG.out | (with_reducible refine Kd.C_alloc ?_ _) | (with_reducible refine Kd.C_drewN ?_ _) | (with_reducible refine Kd.C_drew ?_))); rintro e w' ⟨rfl, ⟨nd, rfl⟩⟩; refine ⟨_, rfl, ?_⟩) | ((with_reducible refine gate_callee (f := 14) rfl ?_); refine goesL_ (some 32) rfl rfl Tryd.func14 (by kernel_rfl) rfl #[.int .u8 3] rfl (by (try simp only [List.map_toArray, List.map_cons, List.map_nil]); first | done | rfl | (simp only [List.length_drop, List.length_take]; rfl)) ?_; (with_reducible refine (gf_Log.calls k 3 t122 t123 _ ?sideG A5.out).mono ?_); (case sideG => repeat (first | exact (Kd.C_below HRG.out HB.out) | exact HRG.out | (with_reducible refine Kd.C_alloc ?_ _) | (with_reducible refine Kd.C_drewN ?_ _) | (with_reducible refine Kd.C_drew ?_))); rintro e w' ⟨rfl, ⟨nd, rfl⟩⟩; refine ⟨_, rfl, ?_⟩) | ((with_reducible refine gate_dst (N := 36) rfl ?_); refine Kd.R_lit (Kd.int .u8) _ 5 ?hg (N := 36) ?hd (xs := ([1, 2] : List Int)) (inner := [.int .u8 1, .int .u8 2]) (ok := fun _ => True) (okp := fun _ => True) ?hr ?hp (fun _ hk => hk) trivial (Below.refl _ _) (Nat.le_refl _) (by simp) ?_; (case hd => rfl); (case hg => rfl); (case hr => first | (go_simp; done) | (go_simp; rfl)); (case hp => exact (Reps.one (show Kd.M (Kd.int .u8) _ _ _ 1 [.int .u8 1] from rfl) (Reps.one (show Kd.M (Kd.int .u8) _ _ _ 2 [.int .u8 2] from rfl) (Reps.none _ _)))); intro v125 w8 ho9 hb hg_ hnew_; clear hg_ hnew_; (first | rw [← Ny124.out] at ho9 | (simp only [Int.reduceToNat] at ho9; rw [← Ny124.out] at ho9)); have n0_ := Aside0.mk (Kd.R_lower ho9 (below_size (by repeat (first | (with_reducible first | exact HB.out | apply below_alloc | apply pw_below_drewN | apply below_drew1) | exact HB.out)))); have n1_ := Aside0.mk (below_step (by repeat (first | (with_reducible first | exact HB.out | apply below_alloc | apply pw_below_drewN | apply below_drew1) | exact HB.out)) hb); clear HB; have HO126 := n0_; have HB := n1_; clear n0_ n1_; clear hb ho9) | ((with_reducible refine gate_dst (N := 37) rfl ?_); refine Kd.R_lit Kd.string _ 9 ?hg (N := 37) ?hd (xs := ([(⟨#[5, 6]⟩ : ByteArray), (⟨#[128, 1]⟩ : ByteArray)] : List ByteArray)) (inner := [.string (⟨#[5, 6]⟩ : ByteArray), .string (⟨#[128, 1]⟩ : ByteArray)]) (ok := fun _ => True) (okp := fun _ => True) ?hr ?hp (fun _ hk => hk) trivial (Below.refl _ _) (Nat.le_refl _) (by simp) ?_; (case hd => rfl); (case hg => rfl); (case hr => first | (go_simp; done) | (go_simp; rfl)); (case hp => exact (Reps.one (show Kd.M Kd.string _ _ _ (⟨#[5, 6]⟩ : ByteArray) [.string (⟨#[5, 6]⟩ : ByteArray)] from rfl) (Reps.one (show Kd.M Kd.string _ _ _ (⟨#[128, 1]⟩ : ByteArray) [.string (⟨#[128, 1]⟩ : ByteArray)] from rfl) (Reps.none _ _)))); intro v128 w10 ho11 hb hg_ hnew_; clear hg_ hnew_; (first | rw [← Ny127.out] at ho11 | (simp only [Int.reduceToNat] at ho11; rw [← Ny127.out] at ho11)); have n0_ := Aside0.mk (Kd.R_below (by (with_reducible repeat (first | apply Kd.R_alloc | apply Kd.R_drewN | apply Kd.R_drew)); exact HO126.out) hb); have n1_ := Aside0.mk (Kd.R_lower ho11 (below_size (by repeat (first | (with_reducible first | exact HB.out | apply below_alloc | apply pw_below_drewN | apply below_drew1) | exact HB.out)))); have n2_ := Aside0.mk (below_step (by repeat (first | (with_reducible first | exact HB.out | apply below_alloc | apply pw_below_drewN | apply below_drew1) | exact HB.out)) hb); clear HO126; clear HB; have HO126 := n0_; have HO129 := n1_; have HB := n2_; clear n0_ n1_ n2_; clear hb ho11; obtain ⟨Ao12, co12, eo12⟩ := Kd.R_slice HO126.out; subst eo12; obtain ⟨Ao13, co13, eo13⟩ := Kd.R_slice HO129.out; subst eo13) | ((with_reducible refine gate_callee (f := 24) rfl ?_); refine goesL_ (some 38) rfl rfl Tryd.func24 (by kernel_rfl) rfl #[.slice Ao12 y124.length co12, .slice Ao13 y127.length co13] rfl (by (try simp only [List.map_toArray, List.map_cons, List.map_nil]); first | done | rfl | (simp only [List.length_drop, List.length_take]; rfl)) ?_; (with_reducible refine (gf_Combine.calls _ _ y124 _ _ y127 t130 t131 _ ?side1 ?side2 ?side3 ?side4 ?sideG A6.out).mono ?_); (case sideG => repeat (first | exact (Kd.C_below HRG.out HB.out) | exact HRG.out | (with_reducible refine Kd.C_alloc ?_ _) | (with_reducible refine Kd.C_drewN ?_ _) | (with_reducible refine Kd.C_drew ?_))); (case side1 => repeat (first | exact (Kd.R_reads' HO126.out).2.2 | (with_reducible refine Kd.C_alloc ?_ _) | (with_reducible refine Kd.C_drewN ?_ _) | (with_reducible refine Kd.C_drew ?_))); (case side2 => exact (Kd.R_reads' HO126.out).2.1); (case side3 => repeat (first | exact (Kd.R_reads' HO129.out).2.2 | (with_reducible refine Kd.C_alloc ?_ _) | (with_reducible refine Kd.C_drewN ?_ _) | (with_reducible refine Kd.C_drew ?_))); (case side4 => exact (Kd.R_reads' HO129.out).2.1); rintro e w14 ⟨rfl, hb⟩; refine ⟨_, rfl, ?_⟩; have n0_ := Aside0.mk (Kd.R_below (by (with_reducible repeat (first | apply Kd.R_alloc | apply Kd.R_drewN | apply Kd.R_drew)); exact HO126.out) hb); have n1_ := Aside0.mk (Kd.R_below (by (with_reducible repeat (first | apply Kd.R_alloc | apply Kd.R_drewN | apply Kd.R_drew)); exact HO129.out) hb); have n2_ := Aside0.mk (below_step (by repeat (first | (with_reducible first | exact HB.out | apply below_alloc | apply pw_below_drewN | apply below_drew1) | exact HB.out)) hb); clear HO126; clear HO129; clear HB; have HO126 := n0_; have HO129 := n1_; have HB := n2_; clear n0_ n1_ n2_; (try clear hb); (try clear hb2); (try clear hk); (try clear hi)))
  (try simp only [Act.put, List.setIfInBounds_toArray, List.set_cons_zero, List.set_cons_succ])
  go_cut [13] (fun v13 wc => ∃ (kq : Nat) (x13_6 : Bool), v13 = .bool x13_6 ∧ Aside0 (quietuslaw04_sanity.j0 kq t120 t121 t122 t123 t130 t131 x13_6 = some r) ∧ Aside0 (kq ≤ k) ∧ Aside0 (Below w.heap.size w wc))
  case first =>
    have H := HC7.out
    clear HC7
    replace H := Option.bind_eq_some_iff.mp H
    obtain ⟨t132, A150, H⟩ := H
    replace H : (if t132 = 29 then ((gf_MulW.f 3 7).bind fun t133 => (if t133 = 9 then (if t114 = 142 then (if t115 = 0 then (if t116 = 1 then (if t117 = 0 then (quietuslaw04_sanity.j0 k t120 t121 t122 t123 t130 t131 (t119 == 1)) else (none)) else (none)) else (none)) else (none)) else (none))) else (none)) = some r := H
    have A15 := Aside0.mk A150
    clear A150
    by_cases c16 : t132 = 29
    · rw [if_pos c16] at H
      have c16b0 : (t132 == 29) = true := beq_iff_eq.mpr c16
      have c16b1 : (t132 != 29) = false := bne_eq_false_iff_eq.mpr c16
      clear c16
      (first | rw [c16b0] | (simp only [i64_w, i32_w]; rw [c16b0]) | rw [c16b1] | skip)
      replace H := Option.bind_eq_some_iff.mp H
      obtain ⟨t133, A170, H⟩ := H
      replace H : (if t133 = 9 then (if t114 = 142 then (if t115 = 0 then (if t116 = 1 then (if t117 = 0 then (quietuslaw04_sanity.j0 k t120 t121 t122 t123 t130 t131 (t119 == 1)) else (none)) else (none)) else (none)) else (none)) else (none)) = some r := H
      have A17 := Aside0.mk A170
      clear A170
      by_cases c18 : t133 = 9
      · rw [if_pos c18] at H
        have c18b0 : (t133 == 9) = true := beq_iff_eq.mpr c18
        have c18b1 : (t133 != 9) = false := bne_eq_false_iff_eq.mpr c18
        clear c18
        by_cases c19 : t114 = 142
        · rw [if_pos c19] at H
          have c19b0 : (t114 == 142) = true := beq_iff_eq.mpr c19
          have c19b1 : (t114 != 142) = false := bne_eq_false_iff_eq.mpr c19
          clear c19
          by_cases c20 : t115 = 0
          · rw [if_pos c20] at H
            have c20b0 : (t115 == 0) = true := beq_iff_eq.mpr c20
            have c20b1 : (t115 != 0) = false := bne_eq_false_iff_eq.mpr c20
            clear c20
            by_cases c21 : t116 = 1
            · rw [if_pos c21] at H
              have c21b0 : (t116 == 1) = true := beq_iff_eq.mpr c21
              have c21b1 : (t116 != 1) = false := bne_eq_false_iff_eq.mpr c21
              clear c21
              by_cases c22 : t117 = 0
              · rw [if_pos c22] at H
                have c22b0 : (t117 == 0) = true := beq_iff_eq.mpr c22
                have c22b1 : (t117 != 0) = false := bne_eq_false_iff_eq.mpr c22
                clear c22
                have H' := Aside0.mk H
                clear H
                go_wp2_with (first | ((with_reducible refine gate_callee (f := 16) rfl ?_); refine goesL_ (some 41) rfl rfl Tryd.func16 (by kernel_rfl) rfl #[.int .u8 2, .int .u8 128] rfl (by (try simp only [List.map_toArray, List.map_cons, List.map_nil]); first | done | rfl | (simp only [List.length_drop, List.length_take]; rfl)) ?_; (with_reducible refine (gf_MulW.calls 2 128 t132 _ ?sideG A15.out).mono ?_); (case sideG => repeat (first | exact (Kd.C_below HRG.out HB.out) | exact HRG.out | (with_reducible refine Kd.C_alloc ?_ _) | (with_reducible refine Kd.C_drewN ?_ _) | (with_reducible refine Kd.C_drew ?_))); rintro e w' ⟨rfl, ⟨nd, rfl⟩⟩; refine ⟨_, rfl, ?_⟩) | (go_at_call 16; (with_reducible refine (gf_MulW.calls 3 7 t133 _ ?sideG A17.out).mono ?_); (case sideG => repeat (first | exact (Kd.C_below HRG.out HB.out) | exact HRG.out | (with_reducible refine Kd.C_alloc ?_ _) | (with_reducible refine Kd.C_drewN ?_ _) | (with_reducible refine Kd.C_drew ?_))); rintro e w' ⟨rfl, ⟨nd, rfl⟩⟩))
                go_meet
                case rel => exact ⟨_, ((t119 == 1)), (by first | rfl | (simp; done) | (simp [*]; done)), H', ⟨by first | omega | exact Nat.le_refl _⟩, ⟨by repeat (first | (with_reducible first | exact HB.out | apply below_alloc | apply pw_below_drewN | apply below_drew1) | exact HB.out)⟩⟩
              · rw [if_neg c22] at H
                exact absurd H (by simp)
            · rw [if_neg c21] at H
              exact absurd H (by simp)
          · rw [if_neg c20] at H
            exact absurd H (by simp)
        · rw [if_neg c19] at H
          exact absurd H (by simp)
      · rw [if_neg c18] at H
        exact absurd H (by simp)
    · rw [if_neg c16] at H
      exact absurd H (by simp)
  case rest =>
    clear HC7
    try clear c1
    try clear c2
    try clear p2
    try clear c13
    try clear c14
    try clear c15
    try clear c16
    try clear c16b0
    try clear c16b1
    try clear c18
    try clear c18b0
    try clear c18b1
    try clear c19
    try clear c19b0
    try clear c19b1
    try clear c20
    try clear c20b0
    try clear c20b1
    try clear c21
    try clear c21b0
    try clear c21b1
    try clear c22
    try clear c22b0
    try clear c22b1
    obtain ⟨kq, x13_6, rfl, HA, HJ6, HB⟩ := hcut
    cases kq with
    | zero => exact absurd HA.out (by simp [quietuslaw04_sanity.j0])
    | succ kj6 =>
      have H := HA.out
      clear HA
      simp only [quietuslaw04_sanity.j0] at H
      replace H := Option.bind_eq_some_iff.mp H
      obtain ⟨t134, A230, H⟩ := H
      replace H : (if t134 = 29 then ((gf_Exp.f kj6 (-1)).bind fun t135 => (if t135 = 142 then ((gf_Exp.f kj6 255).bind fun t136 => (if t136 = 1 then (if t120 = 8 then (if t121 = 0 then (if t122 = 25 then (if t123 = 0 then ((gf_Pow.f kj6 3 2).bind fun t137 => (if t137 = 5 then ((gf_Pow.f kj6 0 0).bind fun t138 => (if t138 = 1 then ((gf_Pow.f kj6 0 (-5)).bind fun t139 => (if x13_6 = true then (if t139 = 0 then ((gf_Sum.f (⟨#[97, 98]⟩ : ByteArray) (⟨#[97]⟩ : ByteArray)).bind fun t140 => (if t140.toList = ([0, 98] : List UInt8) then (if t130.toList = ([24, 4] : List UInt8) then (some (t131 == 0)) else (none)) else (none))) else (none)) else (none))) else (none))) else (none))) else (none)) else (none)) else (none)) else (none)) else (none))) else (none))) else (none)) = some r := H
      have A23 := Aside0.mk A230
      clear A230
      by_cases c24 : t134 = 29
      · rw [if_pos c24] at H
        have c24b0 : (t134 == 29) = true := beq_iff_eq.mpr c24
        have c24b1 : (t134 != 29) = false := bne_eq_false_iff_eq.mpr c24
        clear c24
        replace H := Option.bind_eq_some_iff.mp H
        obtain ⟨t135, A250, H⟩ := H
        replace H : (if t135 = 142 then ((gf_Exp.f kj6 255).bind fun t136 => (if t136 = 1 then (if t120 = 8 then (if t121 = 0 then (if t122 = 25 then (if t123 = 0 then ((gf_Pow.f kj6 3 2).bind fun t137 => (if t137 = 5 then ((gf_Pow.f kj6 0 0).bind fun t138 => (if t138 = 1 then ((gf_Pow.f kj6 0 (-5)).bind fun t139 => (if x13_6 = true then (if t139 = 0 then ((gf_Sum.f (⟨#[97, 98]⟩ : ByteArray) (⟨#[97]⟩ : ByteArray)).bind fun t140 => (if t140.toList = ([0, 98] : List UInt8) then (if t130.toList = ([24, 4] : List UInt8) then (some (t131 == 0)) else (none)) else (none))) else (none)) else (none))) else (none))) else (none))) else (none)) else (none)) else (none)) else (none)) else (none))) else (none)) = some r := H
        have A25 := Aside0.mk A250
        clear A250
        by_cases c26 : t135 = 142
        · rw [if_pos c26] at H
          have c26b0 : (t135 == 142) = true := beq_iff_eq.mpr c26
          have c26b1 : (t135 != 142) = false := bne_eq_false_iff_eq.mpr c26
          clear c26
          replace H := Option.bind_eq_some_iff.mp H
          obtain ⟨t136, A270, H⟩ := H
          replace H : (if t136 = 1 then (if t120 = 8 then (if t121 = 0 then (if t122 = 25 then (if t123 = 0 then ((gf_Pow.f kj6 3 2).bind fun t137 => (if t137 = 5 then ((gf_Pow.f kj6 0 0).bind fun t138 => (if t138 = 1 then ((gf_Pow.f kj6 0 (-5)).bind fun t139 => (if x13_6 = true then (if t139 = 0 then ((gf_Sum.f (⟨#[97, 98]⟩ : ByteArray) (⟨#[97]⟩ : ByteArray)).bind fun t140 => (if t140.toList = ([0, 98] : List UInt8) then (if t130.toList = ([24, 4] : List UInt8) then (some (t131 == 0)) else (none)) else (none))) else (none)) else (none))) else (none))) else (none))) else (none)) else (none)) else (none)) else (none)) else (none)) = some r := H
          have A27 := Aside0.mk A270
          clear A270
          by_cases c28 : t136 = 1
          · rw [if_pos c28] at H
            have c28b0 : (t136 == 1) = true := beq_iff_eq.mpr c28
            have c28b1 : (t136 != 1) = false := bne_eq_false_iff_eq.mpr c28
            clear c28
            by_cases c29 : t120 = 8
            · rw [if_pos c29] at H
              have c29b0 : (t120 == 8) = true := beq_iff_eq.mpr c29
              have c29b1 : (t120 != 8) = false := bne_eq_false_iff_eq.mpr c29
              clear c29
              by_cases c30 : t121 = 0
              · rw [if_pos c30] at H
                have c30b0 : (t121 == 0) = true := beq_iff_eq.mpr c30
                have c30b1 : (t121 != 0) = false := bne_eq_false_iff_eq.mpr c30
                clear c30
                by_cases c31 : t122 = 25
                · rw [if_pos c31] at H
                  have c31b0 : (t122 == 25) = true := beq_iff_eq.mpr c31
                  have c31b1 : (t122 != 25) = false := bne_eq_false_iff_eq.mpr c31
                  clear c31
                  by_cases c32 : t123 = 0
                  · rw [if_pos c32] at H
                    have c32b0 : (t123 == 0) = true := beq_iff_eq.mpr c32
                    have c32b1 : (t123 != 0) = false := bne_eq_false_iff_eq.mpr c32
                    clear c32
                    replace H := Option.bind_eq_some_iff.mp H
                    obtain ⟨t137, A330, H⟩ := H
                    replace H : (if t137 = 5 then ((gf_Pow.f kj6 0 0).bind fun t138 => (if t138 = 1 then ((gf_Pow.f kj6 0 (-5)).bind fun t139 => (if x13_6 = true then (if t139 = 0 then ((gf_Sum.f (⟨#[97, 98]⟩ : ByteArray) (⟨#[97]⟩ : ByteArray)).bind fun t140 => (if t140.toList = ([0, 98] : List UInt8) then (if t130.toList = ([24, 4] : List UInt8) then (some (t131 == 0)) else (none)) else (none))) else (none)) else (none))) else (none))) else (none)) = some r := H
                    have A33 := Aside0.mk A330
                    clear A330
                    by_cases c34 : t137 = 5
                    · rw [if_pos c34] at H
                      have c34b0 : (t137 == 5) = true := beq_iff_eq.mpr c34
                      have c34b1 : (t137 != 5) = false := bne_eq_false_iff_eq.mpr c34
                      clear c34
                      replace H := Option.bind_eq_some_iff.mp H
                      obtain ⟨t138, A350, H⟩ := H
                      replace H : (if t138 = 1 then ((gf_Pow.f kj6 0 (-5)).bind fun t139 => (if x13_6 = true then (if t139 = 0 then ((gf_Sum.f (⟨#[97, 98]⟩ : ByteArray) (⟨#[97]⟩ : ByteArray)).bind fun t140 => (if t140.toList = ([0, 98] : List UInt8) then (if t130.toList = ([24, 4] : List UInt8) then (some (t131 == 0)) else (none)) else (none))) else (none)) else (none))) else (none)) = some r := H
                      have A35 := Aside0.mk A350
                      clear A350
                      by_cases c36 : t138 = 1
                      · rw [if_pos c36] at H
                        have c36b0 : (t138 == 1) = true := beq_iff_eq.mpr c36
                        have c36b1 : (t138 != 1) = false := bne_eq_false_iff_eq.mpr c36
                        clear c36
                        replace H := Option.bind_eq_some_iff.mp H
                        obtain ⟨t139, A370, H⟩ := H
                        replace H : (if x13_6 = true then (if t139 = 0 then ((gf_Sum.f (⟨#[97, 98]⟩ : ByteArray) (⟨#[97]⟩ : ByteArray)).bind fun t140 => (if t140.toList = ([0, 98] : List UInt8) then (if t130.toList = ([24, 4] : List UInt8) then (some (t131 == 0)) else (none)) else (none))) else (none)) else (none)) = some r := H
                        have A37 := Aside0.mk A370
                        clear A370
                        by_cases c38 : x13_6 = true
                        · subst c38
                          have H1 : (if t139 = 0 then ((gf_Sum.f (⟨#[97, 98]⟩ : ByteArray) (⟨#[97]⟩ : ByteArray)).bind fun t140 => (if t140.toList = ([0, 98] : List UInt8) then (if t130.toList = ([24, 4] : List UInt8) then (some (t131 == 0)) else (none)) else (none))) else (none)) = some r := by rw [if_pos rfl] at H; exact H
                          clear H
                          have H := H1
                          clear H1
                          by_cases c39 : t139 = 0
                          · rw [if_pos c39] at H
                            have c39b0 : (t139 == 0) = true := beq_iff_eq.mpr c39
                            have c39b1 : (t139 != 0) = false := bne_eq_false_iff_eq.mpr c39
                            clear c39
                            replace H := Option.bind_eq_some_iff.mp H
                            obtain ⟨t140, A400, H⟩ := H
                            replace H : (if t140.toList = ([0, 98] : List UInt8) then (if t130.toList = ([24, 4] : List UInt8) then (some (t131 == 0)) else (none)) else (none)) = some r := H
                            have A40 := Aside0.mk A400
                            clear A400
                            by_cases c41 : t140.toList = ([0, 98] : List UInt8)
                            · rw [if_pos c41] at H
                              have c41b0 : (t140.toList == ([0, 98] : List UInt8)) = true := beq_iff_eq.mpr c41
                              have c41b1 : (t140.toList != ([0, 98] : List UInt8)) = false := bne_eq_false_iff_eq.mpr c41
                              clear c41
                              by_cases c42 : t130.toList = ([24, 4] : List UInt8)
                              · rw [if_pos c42] at H
                                have c42b0 : (t130.toList == ([24, 4] : List UInt8)) = true := beq_iff_eq.mpr c42
                                have c42b1 : (t130.toList != ([24, 4] : List UInt8)) = false := bne_eq_false_iff_eq.mpr c42
                                clear c42
                                obtain rfl := Option.some.inj H
                                go_wp2_with (first | ((with_reducible refine gate_callee (f := 19) rfl ?_); refine goesL_ (some 67) rfl rfl Tryd.func19 (by kernel_rfl) rfl #[.int .i64 8] rfl (by (try simp only [List.map_toArray, List.map_cons, List.map_nil]); first | done | rfl | (simp only [List.length_drop, List.length_take]; rfl)) ?_; (with_reducible refine (gf_Exp.calls kj6 8 t134 _ ?sideG A23.out).mono ?_); (case sideG => repeat (first | exact (Kd.C_below HRG.out HB.out) | exact HRG.out | (with_reducible refine Kd.C_alloc ?_ _) | (with_reducible refine Kd.C_drewN ?_ _) | (with_reducible refine Kd.C_drew ?_))); rintro e w' ⟨rfl, ⟨nd, rfl⟩⟩; refine ⟨_, rfl, ?_⟩) | (go_at_call 19; (with_reducible refine (gf_Exp.calls kj6 (-1) t135 _ ?sideG A25.out).mono ?_); (case sideG => repeat (first | exact (Kd.C_below HRG.out HB.out) | exact HRG.out | (with_reducible refine Kd.C_alloc ?_ _) | (with_reducible refine Kd.C_drewN ?_ _) | (with_reducible refine Kd.C_drew ?_))); rintro e w' ⟨rfl, ⟨nd, rfl⟩⟩) | (go_at_call 19; (with_reducible refine (gf_Exp.calls kj6 255 t136 _ ?sideG A27.out).mono ?_); (case sideG => repeat (first | exact (Kd.C_below HRG.out HB.out) | exact HRG.out | (with_reducible refine Kd.C_alloc ?_ _) | (with_reducible refine Kd.C_drewN ?_ _) | (with_reducible refine Kd.C_drew ?_))); rintro e w' ⟨rfl, ⟨nd, rfl⟩⟩) | (go_at_call 17; (with_reducible refine (gf_Pow.calls kj6 3 2 t137 _ ?sideG A33.out).mono ?_); (case sideG => repeat (first | exact (Kd.C_below HRG.out HB.out) | exact HRG.out | (with_reducible refine Kd.C_alloc ?_ _) | (with_reducible refine Kd.C_drewN ?_ _) | (with_reducible refine Kd.C_drew ?_))); rintro e w' ⟨rfl, ⟨nd, rfl⟩⟩) | (go_at_call 17; (with_reducible refine (gf_Pow.calls kj6 0 0 t138 _ ?sideG A35.out).mono ?_); (case sideG => repeat (first | exact (Kd.C_below HRG.out HB.out) | exact HRG.out | (with_reducible refine Kd.C_alloc ?_ _) | (with_reducible refine Kd.C_drewN ?_ _) | (with_reducible refine Kd.C_drew ?_))); rintro e w' ⟨rfl, ⟨nd, rfl⟩⟩) | (go_at_call 17; (with_reducible refine (gf_Pow.calls kj6 0 (-5) t139 _ ?sideG A37.out).mono ?_); (case sideG => repeat (first | exact (Kd.C_below HRG.out HB.out) | exact HRG.out | (with_reducible refine Kd.C_alloc ?_ _) | (with_reducible refine Kd.C_drewN ?_ _) | (with_reducible refine Kd.C_drew ?_))); rintro e w' ⟨rfl, ⟨nd, rfl⟩⟩) | (go_at_call 26; (with_reducible refine (gf_Sum.calls (⟨#[97, 98]⟩ : ByteArray) (⟨#[97]⟩ : ByteArray) t140 _ A40.out).mono ?_); rintro e w43 ⟨rfl, hb⟩; have n0_ := Aside0.mk (below_step (by repeat (first | (with_reducible first | exact HB.out | apply below_alloc | apply pw_below_drewN | apply below_drew1) | exact HB.out)) hb); clear HB; have HB := n0_; clear n0_; (try clear hb); (try clear hb2); (try clear hk); (try clear hi)))
                                go_ret
                                exact ⟨by first | rfl | (simp [errW_none, errW_some] <;> rfl) | (simp [*, errW_none, errW_some] <;> rfl), by repeat (first | (with_reducible first | exact HB.out | apply below_alloc | apply pw_below_drewN | apply below_drew1) | exact HB.out)⟩
                              · rw [if_neg c42] at H
                                exact absurd H (by simp)
                            · rw [if_neg c41] at H
                              exact absurd H (by simp)
                          · rw [if_neg c39] at H
                            exact absurd H (by simp)
                        · replace c38 := Bool.eq_false_iff.mpr c38
                          subst c38
                          have H1 : (none) = some r := by rw [if_neg (show ¬ (false = true) by decide)] at H; exact H
                          clear H
                          have H := H1
                          clear H1
                          exact absurd H (by simp)
                      · rw [if_neg c36] at H
                        exact absurd H (by simp)
                    · rw [if_neg c34] at H
                      exact absurd H (by simp)
                  · rw [if_neg c32] at H
                    exact absurd H (by simp)
                · rw [if_neg c31] at H
                  exact absurd H (by simp)
              · rw [if_neg c30] at H
                exact absurd H (by simp)
            · rw [if_neg c29] at H
              exact absurd H (by simp)
          · rw [if_neg c28] at H
            exact absurd H (by simp)
        · rw [if_neg c26] at H
          exact absurd H (by simp)
      · rw [if_neg c24] at H
        exact absurd H (by simp)
end Go.Proofs.YtgfnllaajaoljaaDoor.QA
