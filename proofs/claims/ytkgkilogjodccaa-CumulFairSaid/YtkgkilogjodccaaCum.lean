/-
  The walks of cumul.Weights and of the document's Weights.
-/
import Derived.Test.YtkgkilogjodccaaOwn
import Derived.Test.YtkgkilogjodccaaRef01
namespace Go.Proofs.Ytkgkilogjodccaa
open Go.RowKit HB CumP
set_option linter.unusedVariables false
set_option linter.unusedSimpArgs false

theorem Cum.info : (Try.prog.info? 28).map (fun i => (i.zero, i.size, i.bytes)) = some (some (.int .u64 0), 1, 8) := by kernel_rfl
theorem cum_weights_no (rate : Int) (h : rate < 0 ∨ 4000 < rate) (w : World) :
    Calls Try.prog 15 #[.int .i64 rate] w fun e w' => e = .returned (.tuple #[.slice none 0 0, .int .i64 22]) ∧ w = w' := by
  have hor : rate < 0 ∨ (0 ≤ rate ∧ 4000 < rate) := by omega
  clear h
  go_enter Try.func15, Try.ntmps15
  rcases hor with h | ⟨h, h'⟩
  all_goals
    go_wp2_with fail
    go_ret2
    exact ⟨rfl, rfl⟩

def Cum.WPost (rate : Int) (f : Value → Value) (w : World) (e : Ending) (w' : World) : Prop :=
  ∃ (v : Value) (m : Nat), e = .returned (f v) ∧ Many rate m ∧ Own w' w.heap.size 28 1 (num .u64) v (wl rate m) ∧ Below w.heap.size w w'
def Cum.WRel (rate : Int) (w : World) (x o k : Value) (wr : World) : Prop :=
  ∃ j : Nat, j ≤ 64 ∧ x = .int .u64 (wt rate j) ∧ k = .int .u64 ((j : Int) + 1) ∧ (∀ i, i < j → 0 < wt rate i) ∧ Own wr w.heap.size 28 1 (num .u64) o (wl rate j) ∧ Below w.heap.size w wr

set_option maxRecDepth 100000 in
set_option maxHeartbeats 2000000 in
theorem cum_weights (rate : Int) (h0 : 0 ≤ rate) (h1 : rate ≤ 4000) (w : World) :
    Calls Try.prog 15 #[.int .i64 rate] w (Cum.WPost rate (fun v => .tuple #[v, .int .i64 0]) w) := by
  go_enter Try.func15, Try.ntmps15
  go_wp2_with fail
  go_loopw [4, 5, 6] (fun x o k wr => Cum.WRel rate w x o k wr) (fun _ _ k _ => 66 - (intOf k).toNat)
  case atStart => exact ⟨0, by omega, rfl, rfl, fun i hi => by omega, Own.nil _ _ _ _ _, Below.refl _ _⟩
  case round =>
    obtain ⟨j, hj, rfl, rfl, hpos, hown, hbel⟩ := hrel
    have Hp := hide hpos
    have HO := hide hown
    have hz := hbel.size
    clear hpos hown
    have hx0 := wt_nonneg h0 j
    have hlen := wl_length rate j
    have hO := HO.out
    obtain ⟨A, c, rfl, hc, _⟩ := hO.ints
    rw [hlen] at hc
    simp only [hlen]
    have HL := hide hlen
    have HO2 : Hid (Own wr w.heap.size 28 1 (num .u64) (.slice A j c) (wl rate j)) := hide (by have := HO.out; rw [hlen] at this; exact this)
    clear hlen hO HO
    by_cases hpz : 0 < wt rate j
    · by_cases hj2 : j < 64
      · have hx1 := (wt_range h0 h1 hj2).2
        have hn := hide (wl_next rate j)
        have hp0 : 0 ≤ wt rate j * rate := Int.mul_nonneg hx0 h0
        have hp1 : wt rate j * rate ≤ 4294967295 * 4000 := Int.mul_le_mul hx1 h1 h0 (by decide)
        have hw : Hid (wt rate j * rate / (1000 * ((j : Int) + 1)) = wt rate (j + 1)) := hide rfl
        have Hpz := hide hpz
        generalize hxx : wt rate j = x at *
        have HX := hide hxx
        clear hxx
        have hL : (wl rate j).length ≤ 1000000000 := by rw [HL.out]; omega
        go_wp2_with (at_builtin; refine push rfl _ _ 22 rfl Try.underlying22 Cum.info rfl (by omega) (by omega) rfl (HO2.out.alloc _) x ⟨_, 0, none⟩ 1 rfl rfl (cell_one_new _ _ _) (by simp [Value.oneCell']) hL (Nat.le_trans hz (by simp)) ?_; intro v' w1 hown1 hb1)
        go_roundw
        case rel =>
          refine ⟨j + 1, by omega, ?_, by go_num, fun i hi => ?_, by rw [hn.out]; exact hown1, (hbel.alloc hz _).trans hb1⟩
          · rw [← hw.out]
          · rcases Nat.lt_or_ge i j with h | h
            · exact Hp.out i h
            · obtain rfl : i = j := by omega
              rw [HX.out]; exact Hpz.out
        case measure => simp [intOf]; omega
      · obtain rfl : j = 64 := by omega
        generalize wt rate 64 = x at *
        go_wp2_with fail
        go_ret2
        exact ⟨_, 64, rfl, ⟨by omega, by omega, Hp.out, fun h => by omega⟩, HO2.out, hbel⟩
    · have he : wt rate j = 0 := by omega
      have HE := hide he
      have hj0 : 1 ≤ j := by
        rcases Nat.eq_zero_or_pos j with h | h
        · subst h; simp [wt] at he
        · exact h
      simp only [he]
      clear he hpz hx0
      go_wp2_with fail
      go_ret2
      exact ⟨_, j, rfl, ⟨hj0, hj, Hp.out, fun _ => HE.out⟩, HO2.out, hbel⟩

def Cum.RRel (rate : Int) (w : World) (o k : Value) (wr : World) : Prop :=
  ∃ j : Nat, j < 64 ∧ k = .int .i64 ((j : Int) + 1) ∧ (∀ i, i < j + 1 → 0 < wt rate i) ∧ Own wr w.heap.size 28 1 (num .u64) o (wl rate (j + 1)) ∧ Below w.heap.size w wr
set_option maxRecDepth 100000 in
set_option maxHeartbeats 2000000 in
theorem ref_weights (rate : Int) (h0 : 0 ≤ rate) (h1 : rate ≤ 4000) (w : World) :
    Calls Try.prog 19 #[.int .i64 rate] w (Cum.WPost rate (fun v => v) w) := by
  go_enter Try.func19, Try.ntmps19
  go_wp2_with fail
  go_loopw [3, 4] (fun o k wr => Cum.RRel rate w o k wr) (fun _ k _ => 66 - (intOf k).toNat)
  case atStart =>
    exact ⟨0, by omega, rfl, fun i hi => by obtain rfl : i = 0 := by omega
                                            simp [wt], Own.block w 28 #[.int .u64 67108864] (wl rate 1) (Nat.le_refl _) (by simp [wl, wt]) (fun _ => rfl) (by simp [wl]), by go_grown⟩
  case round =>
    obtain ⟨j, hj, rfl, hpos, hown, hbel⟩ := hrel
    have Hp := hide hpos
    have hz := hbel.size
    clear hpos
    have hx0 := wt_nonneg h0 j
    have hlen := wl_length rate (j + 1)
    obtain ⟨g, cap, rfl, hgB, hgW, hcap, -, -⟩ := hown.at_ (by rw [hlen]; omega)
    rw [hlen] at hcap hown
    simp only [hlen]
    have HL := hide hlen
    have HO := hide hown
    clear hlen hown
    by_cases hj2 : j + 1 < 64
    · obtain ⟨x, hxg, cx, fx⟩ := HO.out.int_at HL.out (j := j) (by omega)
      obtain ⟨hxe, -⟩ := wl_get hxg
      have hx1 := (wt_range h0 h1 hj).2
      have hp0 : 0 ≤ wt rate j * rate := Int.mul_nonneg hx0 h0
      have hp1 : wt rate j * rate ≤ 4294967295 * 4000 := Int.mul_le_mul hx1 h1 h0 (by decide)
      have hw : Hid (wt rate j * rate / (1000 * ((j : Int) + 1)) = wt rate (j + 1)) := hide rfl
      have hn := hide (wl_next rate (j + 1))
      have hy := wt_nonneg h0 (j + 1)
      rw [← hxe] at hx0 hx1 hp0 hp1 hw
      clear hxg hxe
      by_cases hz0 : wt rate (j + 1) = 0
      · have HZ := hide hz0
        have hd : x * rate / (1000 * ((j : Int) + 1)) = 0 := hw.out.trans hz0
        clear hz0
        go_wp2_with fail
        go_ret
        exact ⟨_, j + 1, rfl, ⟨by omega, by omega, Hp.out, fun _ => HZ.out⟩, HO.out, hbel⟩
      · have hd : (x * rate / (1000 * ((j : Int) + 1)) == 0) = false := by rw [beq_eq_false_iff_ne, hw.out]; exact hz0
        have HZ := hide (show 0 < wt rate (j + 1) by omega)
        have hL : (wl rate (j + 1)).length ≤ 1000000000 := by rw [HL.out]; omega
        clear hz0 hy
        go_wp2_with (at_builtin; refine push rfl _ _ 22 rfl Try.underlying22 Cum.info rfl (by omega) (by omega) rfl (HO.out.alloc _) (x * rate / (1000 * ((j : Int) + 1))) ⟨_, 0, none⟩ 1 rfl rfl (cell_one_new _ _ _) (by simp [Value.oneCell']) hL (Nat.le_trans hz (by simp)) ?_; intro v' w1 hown1 hb1)
        go_roundw
        case rel =>
          refine ⟨j + 1, by omega, by go_num, fun i hi => ?_, by rw [hn.out, ← hw.out]; exact hown1, (hbel.alloc hz _).trans hb1⟩
          rcases Nat.lt_or_ge i (j + 1) with h | h
          · exact Hp.out i h
          · obtain rfl : i = j + 1 := by omega
            exact HZ.out
        case measure => simp [intOf]; omega
    · obtain rfl : j = 63 := by omega
      go_wp2_with fail
      go_ret
      exact ⟨_, 64, rfl, ⟨by omega, by omega, Hp.out, fun h => by omega⟩, HO.out, hbel⟩
end Go.Proofs.Ytkgkilogjodccaa
