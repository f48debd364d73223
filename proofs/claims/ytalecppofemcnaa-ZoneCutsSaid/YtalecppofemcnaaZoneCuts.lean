/-
  The law ZoneCuts holds: whatever the weights and the number of zones, the call returns true and turns nothing. No condition.
-/
import Derived.Test.YtalecppofemcnaaRows
import Derived.Test.YtalecppofemcnaaFrame
import Derived.Test.YtalecppofemcnaaZone3
namespace Go.Proofs.Ytalecppofemcnaa
open Go.ChangeShapes Go.WideShapes Go.ChangeAt Go.RowKit HB ZoneP
set_option linter.unusedVariables false
set_option linter.unusedSimpArgs false
set_option maxHeartbeats 1000000 in
theorem law_right2 (A : Option Addr) (n c B : Nat) (l : List Int) (k : Int) (w : World) (hr : Rd w B 1 A n (l.map (Value.int .i64))) (hl : l.length = n) :
    Calls Try.prog 25 #[.slice A n c, .int .i64 k] w fun e w' => e = .returned (.bool (okW l k)) ∧ w = w' := by
  have Hl := hide hl
  by_cases h : 0 < n ∧ n ≤ 128 ∧ 1 ≤ k
  · obtain ⟨h0, h1, h2⟩ := h
    have z0 : decide ((n : Int) < 1) = false := by simp; omega
    have z1 : decide (128 < n) = false := by simp; omega
    clear hl
    go_enter Try.func25, Try.ntmps25
    go_wp2_with fail
    go_loop [5] (fun i => ∃ q : Nat, q ≤ n ∧ i = .int .i64 q ∧ ∀ x ∈ l.take q, 0 ≤ x ∧ x ≤ 1048576) (fun i => n - (intOf i).toNat)
    case atStart => exact ⟨0, Nat.zero_le _, rfl, by simp⟩
    case round =>
      obtain ⟨q, hq, rfl, hall⟩ := hrel
      have HA := hide hall
      clear hall
      by_cases hlt : q < n
      · obtain ⟨b, off, x, rfl, hb, hg, c0⟩ := hr.int_at Hl.out hlt
        have Hg := hide hg
        have hno : (x < 0 ∨ 1048576 < x) → okW l k = false := fun h => okW_no (fun hh => by have := hh.2.2.2 x (List.mem_of_getElem? hg); omega)
        have HN := hide hno
        clear hno hg hr
        rcases (show x < 0 ∨ (0 ≤ x ∧ 1048576 < x) ∨ (0 ≤ x ∧ x ≤ 1048576) by omega) with h3 | ⟨h3, h4⟩ | ⟨h3, h4⟩
        · have hf := hide (HN.out (.inl h3))
          go_wp2_with fail
          go_ret
          exact ⟨ret_bool (by rw [hf.out]), rfl⟩
        · have hf := hide (HN.out (.inr h4))
          go_wp2_with fail
          go_ret
          exact ⟨ret_bool (by rw [hf.out]), rfl⟩
        · go_wp2_with fail
          go_round
          case rel =>
            refine ⟨q + 1, by omega, by go_num, ?_⟩
            rw [List.take_add_one, Hg.out]
            intro y hy
            rcases List.mem_append.1 hy with hy | hy
            · exact HA.out y hy
            · simp at hy; subst hy; exact ⟨h3, h4⟩
          case measure => simp [intOf]; omega
      · have hok := hide (okW_mk (l := l) (k := k) ⟨by rw [Hl.out]; exact h0, by rw [Hl.out]; exact h1, h2, by have := HA.out; rwa [List.take_of_length_le (by rw [Hl.out]; omega)] at this⟩)
        go_wp2_with fail
        go_ret
        exact ⟨ret_bool (by rw [hok.out]), rfl⟩
  · have hf := hide (okW_no (l := l) (k := k) (fun hh => h ⟨by omega, by omega, hh.2.2.1⟩))
    have hcase : n = 0 ∨ (0 < n ∧ 128 < n) ∨ (0 < n ∧ n ≤ 128 ∧ k < 1) := by omega
    clear h hl hr
    rcases hcase with h | ⟨h, h'⟩ | ⟨h, h', h''⟩
    · subst h
      go_enter Try.func25, Try.ntmps25
      go_wp2_with fail
      go_ret
      exact ⟨ret_bool (by rw [hf.out]), rfl⟩
    · have z0 : decide ((n : Int) < 1) = false := by simp; omega
      have z1 : decide (128 < n) = true := by simp; omega
      go_enter Try.func25, Try.ntmps25
      go_wp2_with fail
      go_ret
      exact ⟨ret_bool (by rw [hf.out]), rfl⟩
    · have z0 : decide ((n : Int) < 1) = false := by simp; omega
      have z1 : decide (128 < n) = false := by simp; omega
      go_enter Try.func25, Try.ntmps25
      go_wp2_with fail
      go_ret
      exact ⟨ret_bool (by rw [hf.out]), rfl⟩


namespace ZoneP
/-- what the heaviest of the first q zones weighs -/
def wm (l : List Int) (L : List (Nat × Nat)) : Nat → Int
  | 0 => 0
  | q + 1 => max (wm l L q) (pre l (L.getD q (0, 0)).2 - pre l (L.getD q (0, 0)).1)
theorem wm_next {l : List Int} {L : List (Nat × Nat)} {q a b : Nat} (h : L[q]? = some (a, b)) : wm l L (q + 1) = max (wm l L q) (pre l b - pre l a) := by
  simp only [wm, List.getD_eq_getElem?_getD, h, Option.getD_some]
theorem wm_le {l : List Int} {L : List (Nat × Nat)} {M : Int} (h0 : 0 ≤ M) (h : ∀ (i a b : Nat), L[i]? = some (a, b) → pre l b - pre l a ≤ M) : ∀ q, q ≤ L.length → wm l L q ≤ M
  | 0, _ => h0
  | q + 1, hq => by
    have hg : L[q]? = some (L[q].1, L[q].2) := List.getElem?_eq_getElem (by omega)
    have := wm_le h0 h q (by omega)
    have := h q _ _ hg
    rw [wm_next hg]; omega
theorem wm_ge {l : List Int} {L : List (Nat × Nat)} : ∀ q, q ≤ L.length → ∀ (i a b : Nat), i < q → L[i]? = some (a, b) → pre l b - pre l a ≤ wm l L q
  | 0, _, i, _, _, hi, _ => by omega
  | q + 1, hq, i, a, b, hi, hg => by
    have hgq : L[q]? = some (L[q].1, L[q].2) := List.getElem?_eq_getElem (by omega)
    rw [wm_next hgq]
    rcases Nat.lt_or_ge i q with h | h
    · have := wm_ge (l := l) q (by omega) i a b h hg; omega
    · obtain rfl : i = q := by omega
      rw [hg] at hgq
      have := Option.some.inj hgq
      simp only [Prod.mk.injEq] at this
      rw [← this.1, ← this.2]; omega
theorem wm_range {l : List Int} {k : Int} (h : okW l k = true) {L : List (Nat × Nat)} (hL : ∀ (i a b : Nat), L[i]? = some (a, b) → a ≤ b ∧ b ≤ l.length) : ∀ q, q ≤ L.length → 0 ≤ wm l L q ∧ wm l L q ≤ 134217728
  | 0, _ => by simp [wm]
  | q + 1, hq => by
    have hg : L[q]? = some (L[q].1, L[q].2) := List.getElem?_eq_getElem (by omega)
    have ih := wm_range h hL q (by omega)
    obtain ⟨h1, h2⟩ := hL q _ _ hg
    have p1 := pre_range h L[q].2
    have p2 := pre_range h L[q].1
    have := (okW_yes h).2.1
    rw [wm_next hg]; omega
theorem sp_inv {L : List (Nat × Nat)} {j : Nat} {p : Int × Int} (h : (sp L)[j]? = some p) : ∃ a b : Nat, L[j]? = some (a, b) ∧ p = ((a : Int), (b : Int)) := by
  have hj : j < L.length := by have := (List.getElem?_eq_some_iff.1 h).1; rwa [sp_length] at this
  have hg : L[j]? = some (L[j].1, L[j].2) := List.getElem?_eq_getElem hj
  refine ⟨_, _, hg, ?_⟩
  rw [sp_get hg] at h
  exact (Option.some.inj h).symm
theorem zs_of {l : List Int} {M : Int} {n : Nat} {L : List (Nat × Nat)} (h : Zs l M n L) {q a d f : Nat} (hq : L[q]? = some (a, d)) (h1 : a ≤ f) (h2 : f < d) : ofz (sp L) (f : Int) 0 = (q : Int) := by
  rw [ofz_hit (sp L) 0 q _ (sp_get hq) ⟨by simp only []; omega, by simp only []; omega⟩ (fun j p hj hp => ?_), Nat.zero_add]
  obtain ⟨a', b', hg, rfl⟩ := sp_inv hp
  have := h.chain hg q a d hj hq
  simp only []; omega
theorem zs_low {l : List Int} {M : Int} {n : Nat} {L : List (Nat × Nat)} (h : Zs l M n L) : ofz (sp L) (-1) 0 = -1 :=
  ofz_miss _ _ (fun j p hp => by obtain ⟨a', b', hg, rfl⟩ := sp_inv hp; simp only []; omega)
theorem zs_high {l : List Int} {M : Int} {n : Nat} {L : List (Nat × Nat)} (h : Zs l M n L) : ofz (sp L) (n : Int) 0 = -1 :=
  ofz_miss _ _ (fun j p hp => by obtain ⟨a', b', hg, rfl⟩ := sp_inv hp; have := (h j a' b' hg).2.1; simp only []; omega)
end ZoneP
theorem below_drew1 {B : Nat} {a w : World} (h : Below B a w) : Below B a w.drew := ⟨h.os, h.tape, h.output, h.size, h.block⟩
theorem letter2 {Q : World → Prop} {w W : World} (hb : Below w.heap.size w W) (h : ∀ W' : World, Below w.heap.size w W' → Q W') : Q W := h W hb
theorem zoneCuts_no (A : Option Addr) (n c : Nat) (l : List Int) (k : Int) (w : World) (hr : Rd w w.heap.size 1 A n (l.map (Value.int .i64))) (hl : l.length = n) (hok : okW l k = false) :
    Calls Try.prog 7 #[.slice A n c, .int .i64 k] w fun e w' => e = .returned (.bool true) ∧ Below w.heap.size w w' := by
  have h3 := law_right2 A n c w.heap.size l k w hr hl
  rw [hok] at h3
  have H3 := hide h3
  clear hok hr hl h3
  go_enter Try.func7, Try.ntmps7
  go_wp2_with (go_at_call 25; refine (H3.out).mono ?_; rintro e w1 ⟨rfl, rfl⟩)
  go_ret
  exact ⟨rfl, Below.refl _ _⟩
set_option maxRecDepth 100000 in
set_option maxHeartbeats 16000000 in
theorem zoneCuts_yes (A : Option Addr) (n c : Nat) (l : List Int) (k : Int) (w : World) (hr : Rd w w.heap.size 1 A n (l.map (Value.int .i64))) (hl : l.length = n) (hok : okW l k = true) :
    Calls Try.prog 7 #[.slice A n c, .int .i64 k] w fun e w' => e = .returned (.bool true) ∧ Below w.heap.size w w' := by
  obtain ⟨hn0, hn1, hk, -⟩ := okW_yes hok
  rw [hl] at hn0 hn1
  have hgood := okW_good hok
  have hL0 := lst_nonneg hgood k.toNat (by omega)
  have hL1 : lst l k.toNat ≤ 134217728 := by have a := lst_sum hgood k.toNat; have b := pre_range hok l.length; omega
  have H1 := hide (zone_least A n c w.heap.size l k w hr hl hok)
  have h2 := zone_cut A n c w.heap.size l k w hr (Nat.le_refl _) hl hok
  unfold Cut.Post at h2
  have h3 := law_right2 A n c w.heap.size l k w hr hl
  rw [hok] at h3
  have H3 := hide h3
  have hzs := cl_zs hgood hL0 n (fun i hi => lst_elem hgood k.toNat i (by omega)) hn0
  have hcount := cl_count hgood (k := k.toNat) (by omega) (by omega)
  have hworst := fun m hw => cl_worst (m := m) hgood (k := k.toNat) (by omega) (by omega) hw
  have hpos := cl_pos l (lst l k.toNat) n
  rw [hl] at hcount hworst
  have hmm : wm l (cl l (lst l k.toNat) n) (cl l (lst l k.toNat) n).length = lst l k.toNat := by
    have a := wm_le hL0 (fun i a b h => (hzs i a b h).2.2.1) _ (Nat.le_refl _)
    have b := hworst _ (fun i a b h => wm_ge _ (Nat.le_refl _) i a b (List.getElem?_eq_some_iff.1 h).1 h)
    omega
  generalize lst l k.toNat = M at *
  generalize cl l M n = L at *
  obtain ⟨z, hzm⟩ : ∃ z, L.length = z + 1 := ⟨L.length - 1, by omega⟩
  have hW : ∀ (W : World), Below w.heap.size w W → ∀ (a b : Nat), a ≤ b → b ≤ n → Calls Try.prog 28 #[.slice A n c, .agg #[.int .i64 a, .int .i64 b]] W fun e w' => e = .returned (.int .i64 (pre l b - pre l a)) ∧ Below W.heap.size W w' := by
    intro W hb a b hab hbn
    refine (zone_weigh A n c w.heap.size l a b W (hr.below hb) hb.size hl (by omega)).mono ?_
    rintro e w' ⟨rfl, rfl⟩
    rw [← hl, wsum_all hok a b hab (by omega)]
    exact ⟨rfl, by go_grown⟩
  have HW := hide hW
  have HM := hide (fun q (hq : q ≤ z + 1) => wm_range hok (fun i a b h => ⟨Nat.le_of_lt (hzs i a b h).1, by have := (hzs i a b h).2.1; omega⟩) q (by omega : q ≤ L.length))
  have Hok := hide hok
  have HR := hide hr
  have Hl := hide hl
  have HZ := hide hzs
  have HZM := hide hzm
  have HMM := hide hmm
  have H2 := hide h2
  have hmn : z + 1 ≤ 128 := by omega
  have hmk : (z : Int) + 1 ≤ k := by omega
  obtain ⟨a0, b0, hg0⟩ : ∃ a b, L[0]? = some (a, b) := ⟨L[0].1, L[0].2, List.getElem?_eq_getElem (by omega)⟩
  obtain rfl : a0 = 0 := (hzs 0 a0 b0 hg0).2.2.2.1 rfl
  obtain ⟨az, bz, hgz⟩ : ∃ a b, L[z]? = some (a, b) := ⟨L[z].1, L[z].2, List.getElem?_eq_getElem (by omega)⟩
  obtain rfl : bz = n := (hzs z az bz hgz).2.2.2.2.1 (by omega)
  have HG0 := hide hg0
  have HGZ := hide hgz
  clear hok hr hl h3 h2 hW hzs hzm hmm hcount hworst hgood hpos hg0 hgz
  go_enter Try.func7, Try.ntmps7
  go_wp2_with (first
    | (go_at_call 23; refine (H1.out).mono ?_; rintro e w1 ⟨rfl, rfl⟩)
    | (go_at_call 25; refine (H3.out).mono ?_; rintro e w1 ⟨rfl, rfl⟩))
  refine (H2.out).mono ?_; rintro e w1 ⟨v, rfl, hown, hb1⟩
  have hrd := hown.spans
  rw [sp_length, HZM.out] at hrd
  obtain ⟨A2, c2, rfl, hc2, hrd⟩ := hrd
  have hsl := hide (show (sp L).length = z + 1 by rw [sp_length, HZM.out])
  obtain ⟨b, off, x, y, rfl, hb, hg, cx, cy⟩ := hrd.span_at hsl.out (show 0 < z + 1 by omega)
  rw [sp_get HG0.out] at hg
  simp only [Option.some.injEq, Prod.mk.injEq] at hg
  obtain ⟨rfl, rfl⟩ := hg
  obtain ⟨b', off', x', y', hA', hb', hg', cx', cy'⟩ := hrd.span_at hsl.out (show z < z + 1 by omega)
  simp only [Option.some.injEq, Addr.mk.injEq, and_true] at hA'
  obtain ⟨rfl, rfl⟩ := hA'
  rw [sp_get HGZ.out] at hg'
  simp only [Option.some.injEq, Prod.mk.injEq] at hg'
  obtain ⟨rfl, rfl⟩ := hg'
  have HRC := hide hrd
  have u0 : decide ((z : Int) + 1 < 1) = false := by simp; omega
  have u1 : decide (k < (z : Int) + 1) = false := by simp; omega
  have u2 : ((bz : Int) != (bz : Int)) = false := by simp
  have cx0 : w1.cell? ⟨b, off, none⟩ = some (.int .i64 0) := by simpa using cx
  have hz1 := hb1.size
  clear hown hrd hb' cx cy cx'
  go_wp2_with fail
  clear u0 u1 u2 cx0 cy'
  go_loopw [9, 10] (fun v i wr => ∃ q : Nat, q ≤ z + 1 ∧ i = .int .i64 q ∧ v = .int .i64 (wm l L q) ∧ Below w1.heap.size w1 wr) (fun _ i _ => z + 1 - (intOf i).toNat)
  case atStart => exact ⟨0, Nat.zero_le _, rfl, rfl, Below.refl _ _⟩
  case round =>
    obtain ⟨q, hq, rfl, rfl, hbel⟩ := hrel
    obtain ⟨W1, hW1⟩ : ∃ W1, W1 = wr := ⟨_, rfl⟩
    subst hW1
    have hbw : Below w.heap.size w W1 := hb1.trans (hbel.mono hz1)
    have hz2 := hbel.size
    have HRQ := hide (HRC.out.below hbel)
    by_cases hlt : q < z + 1
    · obtain ⟨b2, off2, x, y, hA2, hb2, hg2, cqx, cqy⟩ := HRQ.out.span_at hsl.out hlt
      simp only [Option.some.injEq, Addr.mk.injEq, and_true] at hA2
      obtain ⟨rfl, rfl⟩ := hA2
      obtain ⟨a, d, hgq⟩ : ∃ a d, L[q]? = some (a, d) := ⟨L[q]'(by rw [HZM.out]; omega) |>.1, L[q]'(by rw [HZM.out]; omega) |>.2, List.getElem?_eq_getElem _⟩
      rw [sp_get hgq] at hg2
      simp only [Option.some.injEq, Prod.mk.injEq] at hg2
      obtain ⟨rfl, rfl⟩ := hg2
      obtain ⟨q1, q2, q3, q4, q5, q6⟩ := HZ.out q a d hgq
      have hmx := hide (wm_next (l := l) hgq)
      have hmr := HM.out q (by omega)
      have HGQ := hide hgq
      have hC := hide (HW.out W1 hbw a d (by omega) q2)
      have hp1 := pre_range Hok.out d
      have hp2 := pre_range Hok.out a
      generalize wm l L q = v at *
      have hsz := sizes (show b < W1.heap.size by omega)
      have hstart := hide q4
      clear q3 q4 q5 q6 hgq
      go_wp2_with (go_at_call 28; refine (hC.out).mono ?_; rintro e w2 ⟨rfl, hb2⟩)
      have hbw2 := then_ hbw hb2 (Nat.le_refl _)
      have cqx2 := hold1 hb2 cqx
      have cqy2 := hold1 hb2 cqy
      have hbel2 := then_ hbel hb2 (Nat.le_refl _)
      have hzw2 := hb2.size
      have hsz2 := sizes (show b < w2.heap.size by omega)
      have i0 : (0 : Int) ≤ (q : Int) := by omega
      have i1 : (q : Int) < (z : Int) + 1 := by omega
      have g1 : decide (d ≤ a) = false := by simp; omega
      clear hC hb2 cqx cqy hsz hbel hp1 hp2
      rcases Nat.eq_zero_or_pos q with hq0 | hq0
      · have g2 : decide ((0 : Int) < (q : Int)) = false := by simp; omega
        have g3 : decide (0 < q) = false := by simp; omega
        have HQ0 := hide hq0
        clear hq0
        go_quiet (fail)
        refine letter2 (w := w1) (below_drewN hbel2 _) ?_
        intro W hbelW
        clear hbw2 cqx2 cqy2 hbel2 hsz2 i0 i1 g1 g2 g3 hzw2
        have hbwW : Below w.heap.size w W := hb1.trans (hbelW.mono hz1)
        obtain ⟨b7, off7, x7, y7, hA7, hb7, hg7, c7x, c7y⟩ := (HRC.out.below hbelW).span_at hsl.out hlt
        simp only [Option.some.injEq, Addr.mk.injEq, and_true] at hA7
        obtain ⟨rfl, rfl⟩ := hA7
        rw [sp_get HGQ.out] at hg7
        simp only [Option.some.injEq, Prod.mk.injEq] at hg7
        obtain ⟨rfl, rfl⟩ := hg7
        go_wp2_with fail
        go_loopw [12] (fun i wr => ∃ f : Nat, a ≤ f ∧ f ≤ d ∧ i = .int .i64 f ∧ Below w1.heap.size w1 wr) (fun i _ => d - (intOf i).toNat)
        case atStart => exact ⟨a, Nat.le_refl _, by omega, rfl, hbelW⟩
        case round =>
          clear hbelW hbwW c7x c7y
          obtain ⟨f, hf1, hf2, rfl, hbelf⟩ := hrel
          obtain ⟨b7, off7, x7, y7, hA7, hb7, hg7, c7x, c7y⟩ := (HRC.out.below hbelf).span_at hsl.out hlt
          simp only [Option.some.injEq, Addr.mk.injEq, and_true] at hA7
          obtain ⟨rfl, rfl⟩ := hA7
          rw [sp_get HGQ.out] at hg7
          simp only [Option.some.injEq, Prod.mk.injEq] at hg7
          obtain ⟨rfl, rfl⟩ := hg7
          by_cases hlt3 : f < d
          · have hO := zone_of (some ⟨b, off, none⟩) (z + 1) c2 w1.heap.size (sp L) f wr (HRC.out.below hbelf) hbelf.size hsl.out (by omega)
            rw [zs_of HZ.out HGQ.out hf1 hlt3] at hO
            have HO := hide hO
            have hself : ((q : Int) != (q : Int)) = false := by simp
            clear hO
            go_wp2_with (go_at_call 29; refine (HO.out).mono ?_; rintro e w4 ⟨rfl, hb4⟩)
            go_roundw
            case rel => exact ⟨f + 1, by omega, by omega, by go_num, then_ hbelf hb4 (Nat.le_refl _)⟩
            case measure => simp [intOf]; omega
          · obtain rfl : f = d := by omega
            have hq8 : q ≤ 200 := by omega
            go_wp2_with fail
            go_roundw
            case rel => exact ⟨q + 1, by omega, by go_num, by rw [hmx.out], hbelf⟩
            case measure => simp [intOf]; omega
      · have g2 : decide ((0 : Int) < (q : Int)) = true := by simp; omega
        have g3 : decide (0 < q) = true := by simp; omega
        obtain ⟨p, hpq⟩ : ∃ p, q = p + 1 := ⟨q - 1, by omega⟩
        obtain ⟨a', d', hgp⟩ : ∃ a d, L[p]? = some (a, d) := ⟨L[p]'(by rw [HZM.out]; omega) |>.1, L[p]'(by rw [HZM.out]; omega) |>.2, List.getElem?_eq_getElem _⟩
        obtain ⟨r1, r2, r3, r4, r5, r6⟩ := HZ.out p a' d' hgp
        obtain ⟨rfl, r7⟩ := r6 a d (by rw [← hpq]; exact HGQ.out)
        obtain ⟨b4, off4, x4, y4, hA4, hb4, hg4, cpx, cpy⟩ := (HRC.out.below hbel2).span_at hsl.out (show p < z + 1 by omega)
        simp only [Option.some.injEq, Addr.mk.injEq, and_true] at hA4
        obtain ⟨rfl, rfl⟩ := hA4
        rw [sp_get hgp] at hg4
        simp only [Option.some.injEq, Prod.mk.injEq] at hg4
        obtain ⟨rfl, rfl⟩ := hg4
        obtain ⟨b5, off5, x5, rfl, hb5, hg5, c5⟩ := (HR.out.below hbw2).int_at Hl.out (show a < bz by omega)
        have hwx := wt_get hg5
        have hx5 := okW_wt Hok.out a
        rw [hwx] at r7 hx5
        have hp1 := pre_range Hok.out a
        have hp2 := pre_range Hok.out a'
        have j0 : (0 : Int) ≤ (a : Int) := by omega
        have j1 : (a : Int) < (bz : Int) := by omega
        have j2 : (0 : Int) ≤ (p : Int) := by omega
        have j3 : (p : Int) < (z : Int) + 1 := by omega
        have j5 : IntKind.i64.wrap ((q : Int) - 1) = (p : Int) := (IntWalk.i64_in _ (by omega)).trans (by omega)
        have j6 : ((a : Int) != (a : Int)) = false := by simp
        have hneg : decide (pre l a - pre l a' + x5 ≤ M) = false := by simp; omega
        have j7 : IntKind.i64.wrap (pre l a - pre l a' + x5) = pre l a - pre l a' + x5 := IntWalk.i64_in _ (by omega)
        have hC2 := hide (fun (W : World) (hb : Below w.heap.size w W) => HW.out W hb a' a (by omega) (by omega))
        clear r1 r2 r3 r4 r5 r6 r7 hgp hg5 hwx hx5 hp1 hp2 hpq
        generalize pre l a - pre l a' = S at *
        go_region_held3 (fun w' => w'.cell? ⟨b, off + q * 2, none⟩ = some (.int .i64 (a : Int)) ∧ w'.cell? ⟨b, off + q * 2 + 1, none⟩ = some (.int .i64 (d : Int)) ∧ w'.cell? ⟨b, off + p * 2, none⟩ = some (.int .i64 (a' : Int)) ∧ w'.cell? ⟨b, off + p * 2 + 1, none⟩ = some (.int .i64 (a : Int)) ∧ w'.cell? ⟨b5, off5 + a, none⟩ = some (.int .i64 x5) ∧ Below w.heap.size w w' ∧ Below w1.heap.size w1 w')
          (first | (exact ⟨hold1 hb3 cqx2, hold1 hb3 cqy2, hold1 hb3 cpx, hold1 hb3 cpy, hold1 hb3 c5, then_ (below_drew1 hbw2) hb3 (Nat.le_refl _), then_ (below_drew1 hbel2) hb3 (Nat.le_refl _)⟩) | (go_split_ands; with_reducible exact ⟨hold1 hb3 ‹_›, hold1 hb3 ‹_›, hold1 hb3 ‹_›, hold1 hb3 ‹_›, hold1 hb3 ‹_›, then_ ‹Below w.heap.size w _› hb3 (Nat.le_refl _), then_ ‹Below w1.heap.size w1 _› hb3 (Nat.le_refl _)⟩) | (go_split_ands; exact ⟨‹_›, ‹_›, ‹_›, ‹_›, ‹_›, below_drew1 ‹_›, below_drew1 ‹_›⟩) | go_keep)
          (first | (go_at_call 28; refine (hC2.out _ ?_).mono ?_; (first | assumption | exact below_drew1 hbw2); rintro e w3 ⟨rfl, hb3⟩))
        all_goals
          refine letter2 (w := w1) (then_ (below_drew1 hbel2) hb3 (Nat.le_refl _)) ?_
          intro W hbelW
          clear hb3 c5 cpx cpy hC2 j0 j1 j2 j3 j5 j6 hneg j7 hbw2 cqx2 cqy2 hbel2 hsz2 i0 i1 g1 g2 g3 hzw2
          have hbwW : Below w.heap.size w W := hb1.trans (hbelW.mono hz1)
          obtain ⟨b7, off7, x7, y7, hA7, hb7, hg7, c7x, c7y⟩ := (HRC.out.below hbelW).span_at hsl.out hlt
          simp only [Option.some.injEq, Addr.mk.injEq, and_true] at hA7
          obtain ⟨rfl, rfl⟩ := hA7
          rw [sp_get HGQ.out] at hg7
          simp only [Option.some.injEq, Prod.mk.injEq] at hg7
          obtain ⟨rfl, rfl⟩ := hg7
          go_wp2_with fail
          go_loopw [12] (fun i wr => ∃ f : Nat, a ≤ f ∧ f ≤ d ∧ i = .int .i64 f ∧ Below w1.heap.size w1 wr) (fun i _ => d - (intOf i).toNat)
          case atStart => exact ⟨a, Nat.le_refl _, by omega, rfl, hbelW⟩
          case round =>
            clear hbelW hbwW c7x c7y
            obtain ⟨f, hf1, hf2, rfl, hbelf⟩ := hrel
            obtain ⟨b7, off7, x7, y7, hA7, hb7, hg7, c7x, c7y⟩ := (HRC.out.below hbelf).span_at hsl.out hlt
            simp only [Option.some.injEq, Addr.mk.injEq, and_true] at hA7
            obtain ⟨rfl, rfl⟩ := hA7
            rw [sp_get HGQ.out] at hg7
            simp only [Option.some.injEq, Prod.mk.injEq] at hg7
            obtain ⟨rfl, rfl⟩ := hg7
            by_cases hlt3 : f < d
            · have hO := zone_of (some ⟨b, off, none⟩) (z + 1) c2 w1.heap.size (sp L) f wr (HRC.out.below hbelf) hbelf.size hsl.out (by omega)
              rw [zs_of HZ.out HGQ.out hf1 hlt3] at hO
              have HO := hide hO
              have hself : ((q : Int) != (q : Int)) = false := by simp
              clear hO
              go_wp2_with (go_at_call 29; refine (HO.out).mono ?_; rintro e w4 ⟨rfl, hb4⟩)
              go_roundw
              case rel => exact ⟨f + 1, by omega, by omega, by go_num, then_ hbelf hb4 (Nat.le_refl _)⟩
              case measure => simp [intOf]; omega
            · obtain rfl : f = d := by omega
              have hq8 : q ≤ 200 := by omega
              go_wp2_with fail
              go_roundw
              case rel => exact ⟨q + 1, by omega, by go_num, by rw [hmx.out], hbelf⟩
              case measure => simp [intOf]; omega
    · obtain rfl : q = z + 1 := by omega
      have hwm := hide (show wm l L (z + 1) = M by rw [← HZM.out]; exact HMM.out)
      rw [hwm.out]
      have hself : (M == M) = true := by simp
      have HO1 := hide (fun (W : World) (hb : Below w1.heap.size w1 W) => (zone_of (some ⟨b, off, none⟩) (z + 1) c2 w1.heap.size (sp L) (-1) W (HRC.out.below hb) hb.size hsl.out (by omega)))
      have HO2 := hide (fun (W : World) (hb : Below w1.heap.size w1 W) => (zone_of (some ⟨b, off, none⟩) (z + 1) c2 w1.heap.size (sp L) bz W (HRC.out.below hb) hb.size hsl.out (by omega)))
      have E1 := hide (zs_low HZ.out)
      have E2 := hide (zs_high HZ.out)
      clear hwm
      go_wp2_with fail
      refine (HO1.out _ hbel).mono ?_; rintro e w2 ⟨rfl, hb2⟩
      rw [E1.out]
      have hbel2 := then_ hbel hb2 (Nat.le_refl _)
      go_wp2_with fail
      refine (HO2.out _ hbel2).mono ?_; rintro e w3 ⟨rfl, hb3⟩
      rw [E2.out]
      go_wp2_with (go_at_call 26; refine (zone_alive _).mono ?_; rintro e w9 ⟨rfl, hb9⟩)
      go_ret
      exact ⟨rfl, then_ (then_ (then_ hbw hb2 (Nat.le_refl _)) hb3 (Nat.le_refl _)) hb9 (Nat.le_refl _)⟩

set_option maxRecDepth 100000 in
theorem zoneCuts_lifted (os : Os) (started : os.Started) (H : Type) (enc : TypeId × Value → H) :
    ReturnsInHanded {} Try.checked os 7 .any (Rows.zoneCutsSpec.pre6 enc Try.prog Try.f7 [] false) (Rows.zoneCutsSpec.post enc Try.prog Try.f7 false true false false) := by
  refine law_lifted (C := Try.checked) Try.own started (by kernel_rfl) Try.func7
    (ChangeSpec.witness6 (enc := enc) (C := Try.checked) false ⟨#[], #[.slice none 0 0, .int .i64 0], []⟩ 8 (by kernel_rfl) (by kernel_rfl) (by kernel_rfl) (by kernel_rfl))
    Try.laidOut (show ∀ t ∈ [26, 3], Try.prog.readableRec t = true ∧ t < Try.prog.types.size from by
      intro t ht; simp only [List.mem_cons, List.not_mem_nil, or_false] at ht; rcases ht with rfl | rfl <;> exact ⟨by kernel_rfl, of_decide_eq_true (by kernel_rfl)⟩) (tb := 4) (by kernel_rfl) Try.underlying4 rfl (fun ds hd => ?_) ?_
  · match ds, hd with
    | [_, _], _ => rfl
  · intro W base args ds p hval hA
    have hval' : ∀ (j : Nat) t v, Try.f7.params[j]? = some t → args[j]? = some v → Value.okWide Try.prog W .any base t v := hval
    rw [Try.params7] at hA hval'
    obtain ⟨v0, v1, d0, d1, p0, p1, rfl, rfl, rfl, h0, h1⟩ := trodAll_two hA
    obtain ⟨A, n, c, l, rfl, hl, hc, hcm, hw, hr⟩ := arg_ints Try.underlying26 Try.underlying3 (by kernel_rfl) (hval' 0 _ _ rfl rfl) h0
    obtain ⟨k, rfl, w1⟩ := arg_int Try.underlying3 (hval' 1 _ _ rfl rfl) h1
    cases hok : okW l k with
    | true => exact zoneCuts_yes A n c l k W hr hl hok
    | false => exact zoneCuts_no A n c l k W hr hl hok

theorem zoneCuts_holds : Rows.ZoneCutsSaid :=
  OpenClaim.holds_of_wide 7 Try.f7 rfl rfl rfl rfl rfl rfl rfl ⟨rfl, rfl, rfl, rfl, rfl⟩ rfl rfl rfl rfl rfl (by kernel_rfl) Try.func7 (by kernel_rfl)
    (of_decide_eq_true (by kernel_rfl)) (by unfold Func.isWrapper; first | (rw [if_pos (by decide +kernel)]; kernel_rfl) | (rw [if_neg (by decide +kernel)]; exact ⟨rfl, rfl⟩))
    (fun os started H enc _ => zoneCuts_lifted os started H enc)
#print axioms zoneCuts_holds
end Go.Proofs.Ytalecppofemcnaa
