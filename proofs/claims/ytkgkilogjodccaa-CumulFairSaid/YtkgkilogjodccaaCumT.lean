/-
  The walks of cumul.Table and of the document's Table.
-/
import Derived.Test.YtkgkilogjodccaaCum
namespace Go.Proofs.Ytkgkilogjodccaa
open Go.RowKit HB CumP
set_option linter.unusedVariables false
set_option linter.unusedSimpArgs false

theorem cum_table_no (rate : Int) (h : rate < 0 ∨ 4000 < rate) (w : World) :
    Calls Try.prog 16 #[.int .i64 rate] w fun e w' => e = .returned (.tuple #[.slice none 0 0, .int .i64 22]) ∧ w = w' := by
  go_enter Try.func16, Try.ntmps16
  go_wp2_with (go_at_call 15; refine (cum_weights_no rate h _).mono ?_; rintro e w' ⟨rfl, rfl⟩)
  go_ret2
  exact ⟨rfl, rfl⟩

def Cum.TPost (rate : Int) (f : Value → Value) (w : World) (e : Ending) (w' : World) : Prop :=
  ∃ (v : Value) (m : Nat), e = .returned (f v) ∧ Many rate m ∧ Own w' w.heap.size 28 1 (num .u64) v (tb rate m m) ∧ Below w.heap.size w w'

set_option maxRecDepth 100000 in
set_option maxHeartbeats 2000000 in
theorem cum_table (rate : Int) (h0 : 0 ≤ rate) (h1 : rate ≤ 4000) (w : World) :
    Calls Try.prog 16 #[.int .i64 rate] w (Cum.TPost rate (fun v => .tuple #[v, .int .i64 0]) w) := by
  go_enter Try.func16, Try.ntmps16
  go_wp2_with fail
  refine (cum_weights rate h0 h1 _).mono ?_; rintro e w1 ⟨v, m, rfl, hm, hown, hb1⟩
  have HM := hide hm
  have m1 := hm.1
  have m64 := hm.2.1
  clear hm
  have hlen := wl_length rate m
  obtain ⟨g, cap, rfl, hgB, hgW, hcap, -, -⟩ := hown.at_ (by rw [hlen]; omega)
  rw [hlen] at hcap hown
  simp only [hlen]
  have HL := hide hlen
  have HO := hide hown
  clear hlen hown
  go_wp2_with fail
  go_loop [6, 22] (fun s i => ∃ j : Nat, j ≤ m ∧ i = .int .i64 j ∧ s = .int .u64 (S rate j)) (fun _ i => m - (intOf i).toNat)
  case atStart => exact ⟨0, Nat.zero_le _, rfl, rfl⟩
  case round =>
    obtain ⟨j, hj, rfl, rfl⟩ := hrel
    have hs := S_range h0 h1 (m := j) (by omega)
    have hs0 := hs.1
    have hs1 := hs.2
    clear hs
    by_cases hlt : j < m
    · obtain ⟨x, hxg, cx, fx⟩ := HO.out.int_at HL.out (j := j) hlt
      obtain ⟨hxe, -⟩ := wl_get hxg
      have hx := wt_range h0 h1 (k := j) (by omega)
      rw [← hxe] at hx
      have hx0 := hx.1
      have hx1 := hx.2
      have hn : Hid (S rate (j + 1) = S rate j + x) := hide (by rw [hxe]; rfl)
      clear hxg hxe hx
      generalize S rate j = s at *
      go_wp2_with fail
      go_round
      case rel => exact ⟨j + 1, by omega, by go_num, by rw [hn.out]⟩
      case measure => simp [intOf]; omega
    · obtain rfl : j = m := by omega
      have hc0 := S_pos h0 m1
      generalize hcc : S rate j = cc at *
      have HC := hide hcc
      clear hcc
      go_wp2_with fail
      go_loopw [9, 32] (fun s i wr => ∃ q : Nat, q ≤ j ∧ i = .int .i64 q ∧ s = .int .u64 (S rate q) ∧ Own wr w.heap.size 28 1 (num .u64) (.slice (some ⟨g, 0, none⟩) j cap) (mix rate j q) ∧ Below w.heap.size w wr) (fun _ i _ => j - (intOf i).toNat)
      case atStart => exact ⟨0, Nat.zero_le _, rfl, rfl, by rw [mix_zero]; exact HO.out, hb1⟩
      case round =>
        clear HO hb1
        obtain ⟨q, hq, rfl, rfl, hown, hbel⟩ := hrel
        have HO := hide hown
        clear hown
        have hs := S_range h0 h1 (m := q) (by omega)
        have hq0 := hs.1
        have hq1 := hs.2
        clear hs
        by_cases hlt2 : q < j
        · obtain ⟨x, hxg, cx, fx⟩ := HO.out.int_at (mix_length _ _ _) (j := q) hlt2
          have hxe := mix_get hxg
          have hx := wt_range h0 h1 (k := q) (by omega)
          rw [← hxe] at hx
          have hx0 := hx.1
          have hx1 := hx.2
          have hn : Hid (S rate (q + 1) = S rate q + x) := hide (by rw [hxe]; rfl)
          have hs2 := S_range h0 h1 (m := q + 1) (by omega)
          rw [hn.out] at hs2
          have hy1 := hs2.2
          have hcell : Hid ((S rate q + x) * 4294967296 / cc = cell rate j q) := hide (by unfold cell; rw [hn.out, HC.out])
          have hst := hide (HO.out.store (mix_length _ _ _) q ((S rate q + x) * 4294967296 / cc))
          have hnx := hide (mix_next (rate := rate) hlt2)
          clear hxg hxe hx hs2
          generalize S rate q = s at *
          go_wp2_with fail
          go_roundw
          case rel => exact ⟨q + 1, by omega, by go_num, by rw [hn.out], by rw [← hnx.out, ← hcell.out]; exact hst.out.1, hbel.trans hst.out.2⟩
          case measure => simp [intOf]; omega
        · obtain rfl : q = j := by omega
          generalize S rate q = s at *
          go_wp2_with fail
          go_ret2
          exact ⟨_, q, rfl, HM.out, by rw [← mix_end]; exact HO.out, hbel⟩

set_option maxRecDepth 100000 in
set_option maxHeartbeats 2000000 in
theorem ref_table (rate : Int) (h0 : 0 ≤ rate) (h1 : rate ≤ 4000) (w : World) :
    Calls Try.prog 20 #[.int .i64 rate] w (Cum.TPost rate (fun v => v) w) := by
  go_enter Try.func20, Try.ntmps20
  go_wp2_with fail
  refine (ref_weights rate h0 h1 _).mono ?_; rintro e w1 ⟨v, m, rfl, hm, hown, hb1⟩
  have HM := hide hm
  have m1 := hm.1
  have m64 := hm.2.1
  clear hm
  have hlen := wl_length rate m
  obtain ⟨g, cap, rfl, hgB, hgW, hcap, -, -⟩ := hown.at_ (by rw [hlen]; omega)
  rw [hlen] at hcap hown
  simp only [hlen]
  have HL := hide hlen
  have HO := hide hown
  clear hlen hown
  go_wp2_with fail
  go_loop [4, 5] (fun s i => ∃ j : Nat, j ≤ m ∧ i = .int .i64 j ∧ s = .int .u64 (S rate j)) (fun _ i => m - (intOf i).toNat)
  case atStart => exact ⟨0, Nat.zero_le _, rfl, rfl⟩
  case round =>
    obtain ⟨j, hj, rfl, rfl⟩ := hrel
    have hs := S_range h0 h1 (m := j) (by omega)
    have hs0 := hs.1
    have hs1 := hs.2
    clear hs
    by_cases hlt : j < m
    · obtain ⟨x, hxg, cx, fx⟩ := HO.out.int_at HL.out (j := j) hlt
      obtain ⟨hxe, -⟩ := wl_get hxg
      have hx := wt_range h0 h1 (k := j) (by omega)
      rw [← hxe] at hx
      have hx0 := hx.1
      have hx1 := hx.2
      have hn : Hid (S rate (j + 1) = S rate j + x) := hide (by rw [hxe]; rfl)
      clear hxg hxe hx
      generalize S rate j = s at *
      go_wp2_with fail
      go_round
      case rel => exact ⟨j + 1, by omega, by go_num, by rw [hn.out]⟩
      case measure => simp [intOf]; omega
    · obtain rfl : j = m := by omega
      have hc0 := S_pos h0 m1
      generalize hcc : S rate j = cc at *
      have HC := hide hcc
      clear hcc
      have hzw := hb1.size
      go_wp2_with fail
      go_loopw [6, 7] (fun o i wr => ∃ q : Nat, q ≤ j ∧ i = .int .i64 q ∧ Own wr w1.heap.size 28 1 (num .u64) o (tb rate j q) ∧ Below w1.heap.size w1 wr) (fun _ i _ => j - (intOf i).toNat)
      case atStart => exact ⟨0, Nat.zero_le _, rfl, Own.nil _ _ _ _ _, Below.refl _ _⟩
      case round =>
        obtain ⟨q, hq, rfl, hown, hbel⟩ := hrel
        have HO3 := hide hown
        clear hown
        have hz := hbel.size
        by_cases hlt2 : q < j
        · have HOW := hide (HO.out.below hbel)
          go_wp2_with fail
          go_loop [8, 9] (fun s i => ∃ t : Nat, t ≤ q + 1 ∧ i = .int .i64 t ∧ s = .int .u64 (S rate t)) (fun _ i => q + 1 - (intOf i).toNat)
          case atStart => exact ⟨0, Nat.zero_le _, rfl, rfl⟩
          case round =>
            obtain ⟨t, ht, rfl, rfl⟩ := hrel
            have hs := S_range h0 h1 (m := t) (by omega)
            have ht0 := hs.1
            have ht1 := hs.2
            clear hs
            by_cases hlt3 : t ≤ q
            · obtain ⟨x, hxg, cx, fx⟩ := HOW.out.int_at HL.out (j := t) (by omega)
              obtain ⟨hxe, -⟩ := wl_get hxg
              have hx := wt_range h0 h1 (k := t) (by omega)
              rw [← hxe] at hx
              have hx0 := hx.1
              have hx1 := hx.2
              have hn : Hid (S rate (t + 1) = S rate t + x) := hide (by rw [hxe]; rfl)
              have htj : t < j := by omega
              clear hxg hxe hx
              generalize S rate t = s at *
              go_wp2_with fail
              go_round
              case rel => exact ⟨t + 1, by omega, by go_num, by rw [hn.out]⟩
              case measure => simp [intOf]; omega
            · obtain rfl : t = q + 1 := by omega
              have hle := S_le h0 (show q + 1 ≤ j by omega)
              rw [HC.out] at hle
              have hn := hide (tb_next rate j q)
              have hcell : Hid ((0 * 18446744073709551616 + S rate (q + 1) * 4294967296) / cc = cell rate j q) := hide (by unfold cell; rw [HC.out, Int.zero_mul, Int.zero_add])
              have hL : (tb rate j q).length ≤ 1000000000 := by rw [tb_length]; omega
              generalize S rate (q + 1) = s at *
              have hT : 0 * 18446744073709551616 + s * 4294967296 ≤ 8589934592 * cc := by omega
              have HT := hide hT
              clear hT
              go_wp2_with fail
              refine (ref_times s ht0 ht1 _).mono ?_; rintro e w' ⟨rfl, rfl⟩
              go_wp2_with fail
              refine (ref_over 0 (s * 4294967296) cc (by omega) (by omega) (by omega) (by omega) (by omega) HT.out _).mono ?_; rintro e w' ⟨⟨r, rfl⟩, rfl⟩
              simp only [hcell.out]
              go_wp2_with (at_builtin; refine push rfl _ _ 22 rfl Try.underlying22 Cum.info rfl (by omega) (by omega) rfl (HO3.out.alloc _) (cell rate j q) ⟨_, 0, none⟩ 1 rfl rfl (cell_one_new _ _ _) (by simp [Value.oneCell']) hL (Nat.le_trans hz (by simp)) ?_; intro v' w2 hown1 hb2)
              go_roundw
              case rel => exact ⟨q + 1, by omega, by go_num, by rw [hn.out]; exact hown1, (hbel.alloc hz _).trans hb2⟩
              case measure => simp [intOf]; omega
        · obtain rfl : q = j := by omega
          go_wp2_with fail
          go_ret
          exact ⟨_, q, rfl, HM.out, HO3.out.small hzw, hb1.trans (hbel.mono hzw)⟩
end Go.Proofs.Ytkgkilogjodccaa
