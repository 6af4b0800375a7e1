-- What this claim does not use was left out by prune.py, a program of this session.
import Derived.Test.YteknbadjfojmbaaQA37
import Derived.Test.YteknbadjfojmbaaQA36
import Derived.Test.YteknbadjfojmbaaPureClkF
namespace Go.Proofs.Yteknbadjfojmbaa.QA
open Go.RowKit Go.Proofs.YteknbadjfojmbaaW.PrintWords Go.Proofs.YteknbadjfojmbaaW.PrintLast Go.Proofs.YteknbadjfojmbaaW.PrintMore
attribute [local go_sem] max2_int min2_int max_two min_two max_three min_three max_four min_four
set_option linter.unusedVariables false
set_option linter.unusedSimpArgs false
structure Tr (rate now value : Int) (rs : List RT) : Prop where
  ok : OkC rate rs
  now0 : 0 ≤ now
  val0 : 0 ≤ value
  tr : ∀ r ∈ rs, ∃ T W : Int, r.f1.f0 ≤ T ∧ T ≤ r.f1.f1 ∧ W / 1000000 = r.f0 ∧ T ≤ now ∧ W ≤ value ∧ (now - T) * (1000000 - rate) ≤ value - W ∧ value - W ≤ (now - T) * (1000000 + rate)
theorem passed_in {rate d n x : Int} (hr : 0 ≤ rate ∧ rate ≤ 100000) (hd : 0 ≤ d) (hn : 0 ≤ n) (h1 : n * (1000000 - rate) ≤ x) (h2 : x ≤ n * (1000000 + rate)) (h3 : (d - 1) * 1000000 < x) (h4 : x ≤ (d + 1) * 1000000 - 1) : loP rate d ≤ n ∧ n ≤ hiP rate d := by
  constructor
  · unfold loP clock_bounds.lo
    split
    · have : (d - 1) * 1000000 / (1000000 + rate) < n := Int.ediv_lt_of_lt_mul (by omega) (by omega)
      omega
    · exact hn
  · unfold hiP clock_bounds.hi
    exact (Int.le_ediv_iff_mul_le (by omega)).2 (by omega)
theorem wn_in {rate now value : Int} {rs : List RT} (h : Tr rate now value rs) {r : RT} (hr : r ∈ rs) : (clock_bounds.wn rate (value / 1000000) r).f0 ≤ now ∧ now ≤ (clock_bounds.wn rate (value / 1000000) r).f1 := by
  obtain ⟨T, W, a1, a2, a3, a4, a5, a6, a7⟩ := h.tr r hr
  have v0 := h.val0
  obtain ⟨e1, e2, e3⟩ := @wn_eq rate (value / 1000000) r
  have hle : r.f0 ≤ value / 1000000 := by omega
  obtain ⟨p1, p2⟩ := passed_in (d := value / 1000000 - r.f0) h.ok.rate (by omega) (show 0 ≤ now - T by omega) a6 a7 (by omega) (by omega)
  by_cases hc : r.f0 < value / 1000000
  · rw [e1 hc]
    exact ⟨by simp only; omega, by simp only; omega⟩
  · have he : value / 1000000 = r.f0 := by omega
    have hz : value / 1000000 - r.f0 = 0 := by omega
    rw [hz] at p1 p2
    rw [e3 he]
    have := hi_bd h.ok.rate (s := 0) (by omega)
    exact ⟨by simp only; omega, by simp only; omega⟩
theorem mx_l (a b : Int) : a ≤ mx a b := by unfold mx; split <;> omega
theorem mn_l (a b : Int) : mn a b ≤ a := by unfold mn; split <;> omega
theorem foldmx_ge (f : RT → Int) : ∀ (l : List RT) (a : Int), a ≤ (l.map f).foldl mx a
  | [], a => Int.le_refl _
  | r :: rs, a => Int.le_trans (mx_l a (f r)) (foldmx_ge f rs _)
theorem foldmn_ge (f : RT → Int) : ∀ (l : List RT) (a : Int), (l.map f).foldl mn a ≤ a
  | [], a => Int.le_refl _
  | r :: rs, a => Int.le_trans (foldmn_ge f rs _) (mn_l a (f r))
theorem foldmx_in (f : RT → Int) (x : Int) : ∀ (l : List RT) (a : Int), a ≤ x → (∀ r ∈ l, f r ≤ x) → (l.map f).foldl mx a ≤ x
  | [], a, h, _ => h
  | r :: rs, a, h, hl => foldmx_in f x rs _ (by have := hl r List.mem_cons_self; unfold mx; split <;> omega) (fun y hy => hl y (List.mem_cons_of_mem _ hy))
theorem foldmn_in (f : RT → Int) (x : Int) : ∀ (l : List RT) (a : Int), x ≤ a → (∀ r ∈ l, x ≤ f r) → x ≤ (l.map f).foldl mn a
  | [], a, h, _ => h
  | r :: rs, a, h, hl => foldmn_in f x rs _ (by have := hl r List.mem_cons_self; unfold mn; split <;> omega) (fun y hy => hl y (List.mem_cons_of_mem _ hy))
theorem bnd_in {rate now value : Int} {rs : List RT} (h : Tr rate now value rs) (hn : now ≤ 3600000000) : (0 ≤ loB rate rs (value / 1000000) ∧ loB rate rs (value / 1000000) ≤ now) ∧ now ≤ hiB rate rs (value / 1000000) ∧ hiB rate rs (value / 1000000) ≤ 3600000000 :=
  ⟨⟨foldmx_ge _ _ _, foldmx_in _ _ _ _ h.now0 (fun r hr => (wn_in h hr).1)⟩, foldmn_in _ _ _ _ hn (fun r hr => (wn_in h hr).2), foldmn_ge _ _ _⟩
theorem now_true {rate now value : Int} {rs : List RT} (h : Tr rate now value rs) (hn : now ≤ 3600000000) (hv : value ≤ 3600000000000000) : nowC rate rs (value / 1000000) = (loB rate rs (value / 1000000), hiB rate rs (value / 1000000), 0) := by
  obtain ⟨⟨a, b⟩, c, d⟩ := bnd_in h hn
  have v0 := h.val0
  unfold nowC
  rw [if_pos (chk_ok.2 h.ok), if_pos (by omega), if_neg (by omega)]
theorem Tr.go {rate now value : Int} {rs : List RT} (h : Tr rate now value rs) {n x : Int} (hn : 0 ≤ n) (h1 : n * (1000000 - rate) ≤ x) (h2 : x ≤ n * (1000000 + rate)) : Tr rate (now + n) (value + x) rs := by
  have hr := h.ok.rate
  have x0 : 0 ≤ x := Int.le_trans (Int.mul_nonneg hn (by omega)) h1
  refine ⟨h.ok, by have := h.now0; omega, by have := h.val0; omega, fun r hr' => ?_⟩
  obtain ⟨T, W, a1, a2, a3, a4, a5, a6, a7⟩ := h.tr r hr'
  refine ⟨T, W, a1, a2, a3, by omega, by omega, ?_, ?_⟩
  · have : (now + n - T) * (1000000 - rate) = (now - T) * (1000000 - rate) + n * (1000000 - rate) := by rw [← Int.add_mul]; congr 1; omega
    omega
  · have : (now + n - T) * (1000000 + rate) = (now - T) * (1000000 + rate) + n * (1000000 + rate) := by rw [← Int.add_mul]; congr 1; omega
    omega
theorem okC_snoc {rate : Int} {rs : List RT} (h : OkC rate rs) {r : RT} (hr : okR r) (hl : ¬ (0 < rs.length ∧ r.f0 ≤ lastL rs)) : OkC rate ((rs ++ [r]).drop (rs.length + 1 - 16)) := by
  have hlen := h.len
  refine ⟨h.rate, by simp; omega, fun x hx => ?_, fun i hi => ?_⟩
  · have := List.mem_of_mem_drop hx
    rcases List.mem_append.1 this with h1 | h1
    · exact h.rd x h1
    · rw [List.mem_singleton.1 h1]; exact hr
  · rw [List.getElem_drop, List.getElem_drop]
    rw [List.length_drop, List.length_append] at hi
    simp only [List.length_singleton] at hi
    by_cases hc : rs.length + 1 - 16 + i + 1 < rs.length
    · rw [List.getElem_append_left (by omega), List.getElem_append_left (by omega)]
      exact h.ord _ hc
    · rw [List.getElem_append_left (by omega), List.getElem_append_right (by omega)]
      have hi' : rs.length + 1 - 16 + i = rs.length - 1 := by omega
      have hpos : 0 < rs.length := by omega
      have e : lastL rs = rs[rs.length - 1].f0 := by
        unfold lastL
        rw [show ((rs.length : Int) - 1) = ((rs.length - 1 : Nat) : Int) by omega, rdR rs (rs.length - 1) (by omega)]
      have hlt : lastL rs < r.f0 := by
        apply Int.lt_of_not_ge
        intro hge
        exact hl ⟨hpos, hge⟩
      rw [e] at hlt
      simp only [hi', List.getElem_singleton]
      exact hlt
theorem sync_true {rate now value : Int} {rs : List RT} (h : Tr rate now value rs) (hn : now ≤ 3600000000) (hv : value ≤ 3600000000000000) {b c : Int} (hb : V b c) (h1 : b ≤ now) (h2 : now ≤ c) :
    (0 < rs.length ∧ value / 1000000 ≤ lastL rs ∧ syncC rate rs (value / 1000000) b c = (0, [], 15)) ∨
    (∃ rs', syncC rate rs (value / 1000000) b c = (rate, rs', 0) ∧ Tr rate now value rs') := by
  obtain ⟨⟨a1, a2⟩, a3, a4⟩ := bnd_in h hn
  have v0 := h.val0
  have en := now_true h hn hv
  have hV := hb
  unfold V at hV
  by_cases hl : 0 < rs.length ∧ value / 1000000 ≤ lastL rs
  · left
    refine ⟨hl.1, hl.2, ?_⟩
    unfold syncC
    rw [if_pos (chk_ok.2 h.ok), if_pos ⟨by omega, hb⟩, if_pos hl]
  · right
    have ej : joinC b c (loB rate rs (value / 1000000)) (hiB rate rs (value / 1000000)) = (mx b (loB rate rs (value / 1000000)), mn c (hiB rate rs (value / 1000000)), 0) := by
      unfold joinC
      rw [if_pos ⟨hb, by unfold V; omega⟩, if_neg]
      unfold mx mn
      split <;> split <;> omega
    refine ⟨(rs ++ ([⟨value / 1000000, ⟨mx b (loB rate rs (value / 1000000)), mn c (hiB rate rs (value / 1000000))⟩⟩] : List RT)).drop (rs.length + 1 - 16), ?_, ?_⟩
    · unfold syncC
      rw [if_pos (chk_ok.2 h.ok), if_pos ⟨by omega, hb⟩, if_neg hl, en, if_pos rfl, ej, if_pos rfl]
    · have hm : 0 ≤ mx b (loB rate rs (value / 1000000)) ∧ mx b (loB rate rs (value / 1000000)) ≤ now ∧ now ≤ mn c (hiB rate rs (value / 1000000)) ∧ mn c (hiB rate rs (value / 1000000)) ≤ 3600000000 := by
        unfold mx mn
        split <;> split <;> omega
      have hok : okR (⟨value / 1000000, ⟨mx b (loB rate rs (value / 1000000)), mn c (hiB rate rs (value / 1000000))⟩⟩ : RT) := by
        refine ⟨by simp only; omega, by simp only; omega, ?_⟩
        unfold V
        simp only
        omega
      refine ⟨okC_snoc h.ok hok hl, h.now0, v0, fun r hr => ?_⟩
      rcases List.mem_append.1 (List.mem_of_mem_drop hr) with h3 | h3
      · exact h.tr r h3
      · rw [List.mem_singleton.1 h3]
        refine ⟨now, value, hm.2.1, hm.2.2.1, rfl, Int.le_refl _, Int.le_refl _, ?_, ?_⟩
        · rw [Int.sub_self, Int.sub_self, Int.zero_mul]; exact Int.le_refl _
        · rw [Int.sub_self, Int.sub_self, Int.zero_mul]; exact Int.le_refl _
def wfS (s : S105) : Prop := (0 ≤ s.f0 ∧ s.f0 ≤ 65535) ∧ (-2147483648 ≤ s.f1 ∧ s.f1 ≤ 2147483647) ∧ (0 ≤ s.f2 ∧ s.f2 ≤ 255) ∧ (0 ≤ s.f3 ∧ s.f3 ≤ 255) ∧ (0 ≤ s.f4 ∧ s.f4 ≤ 255)
theorem goOn_ev {rate now value : Int} {rs : List RT} (h : Tr rate now value rs) (s : S105) (hs : wfS s) (hn : now ≤ 100000) (hv : value ≤ 100000000000000) :
    ∃ rs', Tr rate (now + s.f0 % 500) (goOn.val value rate s.f0 s.f1) rs' ∧ goOn.val value rate s.f0 s.f1 ≤ value + 548900000 ∧ Ev (fun k => quietuslaw14_moment_goOn.f k now value rate rs s.f0 s.f1 s.f2 s.f3 s.f4) (now + s.f0 % 500, goOn.val value rate s.f0 s.f1, rate, rs', true) := by
  obtain ⟨w0, w1, w2, w3, w4⟩ := hs
  have hr := h.ok.rate
  have n0 := h.now0
  have v0 := h.val0
  have hok : goOn.ok now value rate rs s.f0 s.f1 s.f2 s.f3 s.f4 := ⟨⟨n0, hn⟩, ⟨v0, hv⟩, hr, w0, w1, w2, w3, w4, by have := h.ok.len; omega⟩
  have hdv := goOn.dv_bd (d := s.f1) hr.1
  have hnb : 0 ≤ s.f0 % 500 ∧ s.f0 % 500 ≤ 499 := by omega
  obtain ⟨n, en⟩ : ∃ n, s.f0 % 500 = n := ⟨_, rfl⟩
  obtain ⟨dv, ed⟩ : ∃ dv, Int.tmod s.f1 (rate + 1) = dv := ⟨_, rfl⟩
  have x1 : n * (1000000 - rate) ≤ n * (1000000 + dv) := Int.mul_le_mul_of_nonneg_left (by omega) (by omega)
  have x2 : n * (1000000 + dv) ≤ n * (1000000 + rate) := Int.mul_le_mul_of_nonneg_left (by omega) (by omega)
  have x3 : n * (1000000 + rate) ≤ 499 * 1100000 := Int.mul_le_mul (by omega) (by omega) (by omega) (by omega)
  have x0 : 0 ≤ n * (1000000 + dv) := Int.mul_nonneg (by omega) (by omega)
  have ev : goOn.val value rate s.f0 s.f1 = value + n * (1000000 + dv) := by unfold goOn.val; rw [en, ed]
  have ht : Tr rate (now + n) (value + n * (1000000 + dv)) rs := h.go (by omega) x1 x2
  rw [en, ev]
  obtain ⟨v2, e2⟩ : ∃ v2, value + n * (1000000 + dv) = v2 := ⟨_, rfl⟩
  rw [e2] at ht
  have hv2 : value ≤ v2 ∧ v2 ≤ value + 548900000 := by omega
  have hread : s.f2 % 3 ≠ 0 → ∃ b c, V b c ∧ b ≤ now + n ∧ now + n ≤ c ∧ Ev (fun k => goOn.read k now value rate rs s.f0 s.f1 s.f2 s.f3 s.f4) (v2 / 1000000, b, c) := by
    intro _
    unfold goOn.read
    rw [ev, en, e2]
    by_cases h2 : s.f2 % 3 = 2
    · obtain ⟨at_, eat⟩ : ∃ a, goOn.at_ now s.f0 s.f3 = a := ⟨_, rfl⟩
      have hat : now ≤ at_ ∧ at_ ≤ now + n := by
        rw [← eat]
        unfold goOn.at_
        rw [en]
        have q1 : 0 ≤ s.f3 * n := Int.mul_nonneg w3.1 (by omega)
        have q2 : s.f3 * n ≤ 255 * n := Int.mul_le_mul_of_nonneg_right w3.2 (by omega)
        omega
      have hmx : 0 ≤ mx 0 (at_ - s.f4) ∧ mx 0 (at_ - s.f4) ≤ at_ := by unfold mx; split <;> omega
      have hV : V (mx 0 (at_ - s.f4)) (at_ + s.f3) := by unfold V; omega
      obtain ⟨p1, p2⟩ := passed_in (rate := rate) (d := v2 / 1000000 - value / 1000000) (n := n) (x := n * (1000000 + dv)) hr (by omega) (by omega) x1 x2 (by omega) (by omega)
      have hh := hi_bd hr (s := v2 / 1000000 - value / 1000000) (by omega)
      have ea : answerC rate rs (value / 1000000) (v2 / 1000000) (mx 0 (at_ - s.f4)) (at_ + s.f3) = (v2 / 1000000, mx 0 (at_ - s.f4), mn 3600000000 (at_ + s.f3 + hiP rate (v2 / 1000000 - value / 1000000)), 0) := by
        unfold answerC
        rw [if_pos (chk_ok.2 h.ok), if_pos ⟨by omega, hV⟩]
      have hmn : now + n ≤ mn 3600000000 (at_ + s.f3 + hiP rate (v2 / 1000000 - value / 1000000)) ∧ mn 3600000000 (at_ + s.f3 + hiP rate (v2 / 1000000 - value / 1000000)) ≤ 3600000000 := by unfold mn; split <;> omega
      refine ⟨_, _, (by unfold V; omega : V (mx 0 (at_ - s.f4)) (mn 3600000000 (at_ + s.f3 + hiP rate (v2 / 1000000 - value / 1000000)))), by omega, hmn.1, ?_⟩
      rw [eat]
      refine Ev.pos_ h2 (Ev.bind (Ev.eq_ (answer_ev rate rs (value / 1000000) (v2 / 1000000) (mx 0 (at_ - s.f4)) (at_ + s.f3)) ea) ?_)
      exact Ev.pos_ ⟨rfl, rfl, by simp only; omega, hmn.1⟩ (Ev.now _)
    · have hmx : 0 ≤ mx 0 (now + n - s.f3) ∧ mx 0 (now + n - s.f3) ≤ now + n := by unfold mx; split <;> omega
      exact ⟨_, _, (by unfold V; omega : V (mx 0 (now + n - s.f3)) (now + n + s.f4)), hmx.2, by omega, Ev.neg_ h2 (Ev.now _)⟩
  have main : (∃ rs', Tr rate (now + n) v2 rs' ∧ Ev (fun k => quietuslaw14_moment_goOn.f k now value rate rs s.f0 s.f1 s.f2 s.f3 s.f4) (now + n, v2, rate, rs', true)) := by
    unfold quietuslaw14_moment_goOn.f
    rw [ev, en, e2]
    by_cases h0 : s.f2 % 3 = 0
    · exact ⟨rs, ht, Ev.pos_ hok (Ev.pos_ h0 (Ev.now _))⟩
    · obtain ⟨b, c, hV, hb1, hb2, hre⟩ := hread h0
      rcases sync_true ht (by omega) (by omega) hV hb1 hb2 with ⟨l1, l2, es⟩ | ⟨rs', es, ht'⟩
      · refine ⟨rs, ht, Ev.pos_ hok (Ev.neg_ h0 (Ev.bind hre (Ev.bind (Ev.eq_ (sync_ev rate rs (v2 / 1000000) b c) es) (Ev.pos_ rfl (Ev.pos_ ⟨l1, l2⟩ (Ev.now _))))))⟩
      · exact ⟨rs', ht', Ev.pos_ hok (Ev.neg_ h0 (Ev.bind hre (Ev.bind (Ev.eq_ (sync_ev rate rs (v2 / 1000000) b c) es) (Ev.neg_ (by simp) (Ev.pos_ rfl (Ev.now _))))))⟩
  obtain ⟨rs', m1, m2⟩ := main
  rw [e2]
  exact ⟨rs', m1, by omega, m2⟩
end Go.Proofs.Yteknbadjfojmbaa.QA
