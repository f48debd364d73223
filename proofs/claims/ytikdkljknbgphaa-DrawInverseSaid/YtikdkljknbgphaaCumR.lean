/-
  The walks of the document's Weights and Table (for a seat that has no cumul.Table).
-/
import Derived.Test.YtikdkljknbgphaaOwnN
import Derived.Test.YtikdkljknbgphaaRef01
namespace Go.Proofs.Ytikdkljknbgphaa
open Go.RowKit HB CumP
set_option linter.unusedVariables false
set_option linter.unusedSimpArgs false

theorem Cum.info : (Try.prog.info? 22).map (fun i => (i.zero, i.size, i.bytes)) = some (some (.int .u64 0), 1, 8) := by kernel_rfl
def Cum.WPost (rate : Int) (f : Value → Value) (w : World) (e : Ending) (w' : World) : Prop :=
  ∃ (v : Value) (m : Nat), e = .returned (f v) ∧ Many rate m ∧ Own w' w.heap.size 22 1 (num .u64) v (wl rate m) ∧ Below w.heap.size w w'
def Cum.RRel (rate : Int) (w : World) (o k : Value) (wr : World) : Prop :=
  ∃ j : Nat, j < 64 ∧ k = .int .i64 ((j : Int) + 1) ∧ (∀ i, i < j + 1 → 0 < wt rate i) ∧ Own wr w.heap.size 22 1 (num .u64) o (wl rate (j + 1)) ∧ Below w.heap.size w wr
set_option maxRecDepth 100000 in
set_option maxHeartbeats 2000000 in
theorem ref_weights (rate : Int) (h0 : 0 ≤ rate) (h1 : rate ≤ 4000) (w : World) :
    Calls Try.prog 54 #[.int .i64 rate] w (Cum.WPost rate (fun v => v) w) := by
  go_enter Try.func54, Try.ntmps54
  go_wp2_with fail
  go_loopw [3, 4] (fun o k wr => Cum.RRel rate w o k wr) (fun _ k _ => 66 - (intOf k).toNat)
  case atStart =>
    exact ⟨0, by omega, rfl, fun i hi => by obtain rfl : i = 0 := by omega
                                            simp [wt], Own.block w 22 #[.int .u64 67108864] (wl rate 1) (Nat.le_refl _) (by simp [wl, wt]) (fun _ => rfl) (by simp [wl]), by go_grown⟩
  case round =>
    obtain ⟨j, hj, rfl, hpos, hown, hbel⟩ := hrel
    have Hp := hide hpos
    have hz := hbel.size
    clear hpos
    have hx0 := wt_nonneg h0 j
    have hlen := wl_length rate (j + 1)
    obtain ⟨g, cap, rfl, hgB, hgW, hcap, -, -⟩ := hown.at_ (by rw [hlen]; omega)
    rw [hlen] at hcap hown
    simp only [hlen]
    have HL := hide hlen
    have HO := hide hown
    clear hlen hown
    by_cases hj2 : j + 1 < 64
    · obtain ⟨x, hxg, cx, fx⟩ := HO.out.int_at HL.out (j := j) (by omega)
      obtain ⟨hxe, -⟩ := wl_get hxg
      have hx1 := (wt_range h0 h1 hj).2
      have hp0 : 0 ≤ wt rate j * rate := Int.mul_nonneg hx0 h0
      have hp1 : wt rate j * rate ≤ 4294967295 * 4000 := Int.mul_le_mul hx1 h1 h0 (by decide)
      have hw : Hid (wt rate j * rate / (1000 * ((j : Int) + 1)) = wt rate (j + 1)) := hide rfl
      have hn := hide (wl_next rate (j + 1))
      have hy := wt_nonneg h0 (j + 1)
      rw [← hxe] at hx0 hx1 hp0 hp1 hw
      clear hxg hxe
      by_cases hz0 : wt rate (j + 1) = 0
      · have HZ := hide hz0
        have hd : x * rate / (1000 * ((j : Int) + 1)) = 0 := hw.out.trans hz0
        clear hz0
        go_wp2_with fail
        go_ret
        exact ⟨_, j + 1, rfl, ⟨by omega, by omega, Hp.out, fun _ => HZ.out⟩, HO.out, hbel⟩
      · have hd : (x * rate / (1000 * ((j : Int) + 1)) == 0) = false := by rw [beq_eq_false_iff_ne, hw.out]; exact hz0
        have HZ := hide (show 0 < wt rate (j + 1) by omega)
        have hL : (wl rate (j + 1)).length ≤ 1000000000 := by rw [HL.out]; omega
        clear hz0 hy
        go_wp2_with (at_builtin; refine push rfl _ _ 48 rfl Try.underlying48 Cum.info rfl (by omega) (by omega) rfl (HO.out.alloc _) (x * rate / (1000 * ((j : Int) + 1))) ⟨_, 0, none⟩ 1 rfl rfl (cell_one_new _ _ _) (by simp [Value.oneCell']) hL (Nat.le_trans hz (by simp)) ?_; intro v' w1 hown1 hb1)
        go_roundw
        case rel =>
          refine ⟨j + 1, by omega, by go_num, fun i hi => ?_, by rw [hn.out, ← hw.out]; exact hown1, (hbel.alloc hz _).trans hb1⟩
          rcases Nat.lt_or_ge i (j + 1) with h | h
          · exact Hp.out i h
          · obtain rfl : i = j + 1 := by omega
            exact HZ.out
        case measure => simp [intOf]; omega
    · obtain rfl : j = 63 := by omega
      go_wp2_with fail
      go_ret
      exact ⟨_, 64, rfl, ⟨by omega, by omega, Hp.out, fun h => by omega⟩, HO.out, hbel⟩
def Cum.TPost (rate : Int) (f : Value → Value) (w : World) (e : Ending) (w' : World) : Prop :=
  ∃ (v : Value) (m : Nat), e = .returned (f v) ∧ Many rate m ∧ Own w' w.heap.size 22 1 (num .u64) v (tb rate m m) ∧ Below w.heap.size w w'

set_option maxRecDepth 100000 in
set_option maxHeartbeats 2000000 in
theorem ref_table (rate : Int) (h0 : 0 ≤ rate) (h1 : rate ≤ 4000) (w : World) :
    Calls Try.prog 33 #[.int .i64 rate] w (Cum.TPost rate (fun v => v) w) := by
  go_enter Try.func33, Try.ntmps33
  go_wp2_with fail
  refine (ref_weights rate h0 h1 _).mono ?_; rintro e w1 ⟨v, m, rfl, hm, hown, hb1⟩
  have HM := hide hm
  have m1 := hm.1
  have m64 := hm.2.1
  clear hm
  have hlen := wl_length rate m
  obtain ⟨g, cap, rfl, hgB, hgW, hcap, -, -⟩ := hown.at_ (by rw [hlen]; omega)
  rw [hlen] at hcap hown
  simp only [hlen]
  have HL := hide hlen
  have HO := hide hown
  clear hlen hown
  go_wp2_with fail
  go_loop [4, 5] (fun s i => ∃ j : Nat, j ≤ m ∧ i = .int .i64 j ∧ s = .int .u64 (S rate j)) (fun _ i => m - (intOf i).toNat)
  case atStart => exact ⟨0, Nat.zero_le _, rfl, rfl⟩
  case round =>
    obtain ⟨j, hj, rfl, rfl⟩ := hrel
    have hs := S_range h0 h1 (m := j) (by omega)
    have hs0 := hs.1
    have hs1 := hs.2
    clear hs
    by_cases hlt : j < m
    · obtain ⟨x, hxg, cx, fx⟩ := HO.out.int_at HL.out (j := j) hlt
      obtain ⟨hxe, -⟩ := wl_get hxg
      have hx := wt_range h0 h1 (k := j) (by omega)
      rw [← hxe] at hx
      have hx0 := hx.1
      have hx1 := hx.2
      have hn : Hid (S rate (j + 1) = S rate j + x) := hide (by rw [hxe]; rfl)
      clear hxg hxe hx
      generalize S rate j = s at *
      go_wp2_with fail
      go_round
      case rel => exact ⟨j + 1, by omega, by go_num, by rw [hn.out]⟩
      case measure => simp [intOf]; omega
    · obtain rfl : j = m := by omega
      have hc0 := S_pos h0 m1
      generalize hcc : S rate j = cc at *
      have HC := hide hcc
      clear hcc
      have hzw := hb1.size
      go_wp2_with fail
      go_loopw [6, 7] (fun o i wr => ∃ q : Nat, q ≤ j ∧ i = .int .i64 q ∧ Own wr w1.heap.size 22 1 (num .u64) o (tb rate j q) ∧ Below w1.heap.size w1 wr) (fun _ i _ => j - (intOf i).toNat)
      case atStart => exact ⟨0, Nat.zero_le _, rfl, Own.nil _ _ _ _ _, Below.refl _ _⟩
      case round =>
        obtain ⟨q, hq, rfl, hown, hbel⟩ := hrel
        have HO3 := hide hown
        clear hown
        have hz := hbel.size
        by_cases hlt2 : q < j
        · have HOW := hide (HO.out.below hbel)
          go_wp2_with fail
          go_loop [8, 9] (fun s i => ∃ t : Nat, t ≤ q + 1 ∧ i = .int .i64 t ∧ s = .int .u64 (S rate t)) (fun _ i => q + 1 - (intOf i).toNat)
          case atStart => exact ⟨0, Nat.zero_le _, rfl, rfl⟩
          case round =>
            obtain ⟨t, ht, rfl, rfl⟩ := hrel
            have hs := S_range h0 h1 (m := t) (by omega)
            have ht0 := hs.1
            have ht1 := hs.2
            clear hs
            by_cases hlt3 : t ≤ q
            · obtain ⟨x, hxg, cx, fx⟩ := HOW.out.int_at HL.out (j := t) (by omega)
              obtain ⟨hxe, -⟩ := wl_get hxg
              have hx := wt_range h0 h1 (k := t) (by omega)
              rw [← hxe] at hx
              have hx0 := hx.1
              have hx1 := hx.2
              have hn : Hid (S rate (t + 1) = S rate t + x) := hide (by rw [hxe]; rfl)
              have htj : t < j := by omega
              clear hxg hxe hx
              generalize S rate t = s at *
              go_wp2_with fail
              go_round
              case rel => exact ⟨t + 1, by omega, by go_num, by rw [hn.out]⟩
              case measure => simp [intOf]; omega
            · obtain rfl : t = q + 1 := by omega
              have hle := S_le h0 (show q + 1 ≤ j by omega)
              rw [HC.out] at hle
              have hn := hide (tb_next rate j q)
              have hcell : Hid ((0 * 18446744073709551616 + S rate (q + 1) * 4294967296) / cc = cell rate j q) := hide (by unfold cell; rw [HC.out, Int.zero_mul, Int.zero_add])
              have hL : (tb rate j q).length ≤ 1000000000 := by rw [tb_length]; omega
              generalize S rate (q + 1) = s at *
              have hT : 0 * 18446744073709551616 + s * 4294967296 ≤ 8589934592 * cc := by omega
              have HT := hide hT
              clear hT
              go_wp2_with fail
              refine (ref_times s ht0 ht1 _).mono ?_; rintro e w' ⟨rfl, rfl⟩
              go_wp2_with fail
              refine (ref_over 0 (s * 4294967296) cc (by omega) (by omega) (by omega) (by omega) (by omega) HT.out _).mono ?_; rintro e w' ⟨⟨r, rfl⟩, rfl⟩
              simp only [hcell.out]
              go_wp2_with (at_builtin; refine push rfl _ _ 48 rfl Try.underlying48 Cum.info rfl (by omega) (by omega) rfl (HO3.out.alloc _) (cell rate j q) ⟨_, 0, none⟩ 1 rfl rfl (cell_one_new _ _ _) (by simp [Value.oneCell']) hL (Nat.le_trans hz (by simp)) ?_; intro v' w2 hown1 hb2)
              go_roundw
              case rel => exact ⟨q + 1, by omega, by go_num, by rw [hn.out]; exact hown1, (hbel.alloc hz _).trans hb2⟩
              case measure => simp [intOf]; omega
        · obtain rfl : q = j := by omega
          go_wp2_with fail
          go_ret
          exact ⟨_, q, rfl, HM.out, HO3.out.small hzw, hb1.trans (hbel.mono hzw)⟩
end Go.Proofs.Ytikdkljknbgphaa
