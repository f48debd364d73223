/-
  The walks of the document's own orders: scale, row, swap, Order; and of the law's helpers left, same.
-/
import Derived.Test.YtalecppofemcnaaOrder
namespace Go.Proofs.Ytalecppofemcnaa
open Go.RowKit HB PickP ShufP
set_option linter.unusedVariables false
set_option linter.unusedSimpArgs false
theorem ref_scale (x b : Int) (h0 : 0 ≤ x) (h1 : x ≤ 4294967295) (h2 : 0 ≤ b) (h3 : b ≤ 4294967295) (w : World) :
    Calls Try.prog 41 #[.int .u32 x, .int .i64 b] w fun e w' => e = .returned (.int .i64 (PickP.num x b)) ∧ w = w' := by
  obtain ⟨m0, m1⟩ := mul_range h0 h1 h2 h3
  have e : x * b / 4294967296 = PickP.num x b := rfl
  have E := hide e
  have r0 : 0 ≤ x * b / 4294967296 := by omega
  have r1 : x * b / 4294967296 ≤ 4294967295 := by omega
  clear e
  go_enter Try.func41, Try.ntmps41
  go_wp2_with fail
  go_ret
  exact ⟨ret_int (by first | exact E.out | (rw [← E.out]; omega)), rfl⟩

theorem ref_row (n : Nat) (hn : n ≤ 300) (w : World) :
    Calls Try.prog 39 #[.int .i64 n] w fun e w' => (∃ v, e = .returned v ∧ Own w' w.heap.size 3 1 (num .i64) v (row n)) ∧ Below w.heap.size w w' := by
  go_enter Try.func39, Try.ntmps39
  go_wp2_with fail
  go_loopw [3, 4] (fun o i wr => ∃ k : Nat, k ≤ n ∧ i = .int .i64 k ∧ Own wr w.heap.size 3 1 (num .i64) o (row k) ∧ Below w.heap.size w wr) (fun _ i _ => n - (intOf i).toNat)
  case atStart => exact ⟨0, Nat.zero_le _, rfl, Own.nil _ _ _ _ _, Below.refl _ _⟩
  case round =>
    obtain ⟨k, hk, rfl, hown, hbel⟩ := hrel
    have HO := hide hown
    have hz := hbel.size
    have hL : (row k).length ≤ 1000000000 := by rw [row_length]; omega
    clear hown
    by_cases hlt : k < n
    · go_wp2_with (at_builtin; refine push rfl _ _ 26 rfl Try.underlying26 Order.info rfl (by omega) (by omega) rfl (HO.out.alloc _) (k : Int) ⟨_, 0, none⟩ 1 rfl rfl (cell_one_new _ _ _) (by simp [Value.oneCell']) hL (Nat.le_trans hz (by simp)) ?_; intro v' w1 hown1 hb1)
      go_roundw
      case rel => exact ⟨k + 1, by omega, by go_num, by rw [← row_next]; exact hown1, (hbel.alloc hz _).trans hb1⟩
      case measure => simp [intOf]; omega
    · obtain rfl : k = n := by omega
      go_wp2_with fail
      go_ret
      exact ⟨⟨_, rfl, HO.out⟩, hbel⟩

set_option maxRecDepth 100000 in
set_option maxHeartbeats 2000000 in
theorem ref_swap (A : Option Addr) (n c B i k : Nat) (l : List Int) (w : World) (hr : Rd w B 1 A n (l.map (Value.int .i64))) (hB : B ≤ w.heap.size) (hl : l.length = n) (hn : n ≤ 300) (hi : i < n) (hk : k < n) :
    Calls Try.prog 40 #[.slice A n c, .int .i64 i, .int .i64 k] w fun e w' => (∃ v, e = .returned v ∧ Own w' w.heap.size 3 1 (num .i64) v (sw l i k)) ∧ Below w.heap.size w w' := by
  obtain ⟨b, off, X, hA, hb, hX, cX⟩ := hr.int_at hl hi
  obtain ⟨b', off', Y, hA', hb', hY, cY⟩ := hr.int_at hl hk
  rw [hA] at hA'
  simp only [Option.some.injEq, Addr.mk.injEq, and_true] at hA'
  obtain ⟨rfl, rfl⟩ := hA'
  subst hA
  have Hl := hide hl
  have HR := hide hr
  have HX := hide hX
  have HY := hide hY
  have hO0 := hide (Own.block (base := w.heap.size) (f := num .i64) (sz := 1) w 3 #[] [] (Nat.le_refl _) rfl (fun _ => rfl) (by simp))
  clear hl hr hX hY
  go_enter Try.func40, Try.ntmps40
  go_wp2_with (at_builtin; refine pushAll rfl _ _ 26 rfl Try.underlying26 Order.info rfl (by omega) (by omega) rfl hO0.out l w.heap.size (some ⟨b, off, none⟩) n c rfl Hl.out (by rw [map_flat]; exact (HR.out.mono hB).alloc (Nat.le_refl _) _) (by rw [map_flat]; intro u hu; obtain ⟨z, _, rfl⟩ := List.mem_map.1 hu; rfl) (by simp) (by omega) (by go_size) ?_; intro v w1 hown hb1)
  rw [List.nil_append] at hown
  have hbel := (show Below w.heap.size w _ from (Below.refl _ _).alloc (Nat.le_refl _) _).trans hb1
  have cX1 := (hbel.cell (p := ⟨b, off + i, none⟩) (show b < w.heap.size by omega)).trans cX
  have cY1 := (hbel.cell (p := ⟨b, off + k, none⟩) (show b < w.heap.size by omega)).trans cY
  obtain ⟨g, cap, rfl, hgB, hgW, hcap, -, -⟩ := hown.at_ (by rw [Hl.out]; omega)
  rw [Hl.out] at hown hcap ⊢
  obtain ⟨X', hX', cX', fX⟩ := hown.int_at Hl.out (j := i) (by omega)
  obtain ⟨Y', hY', cY', fY⟩ := hown.int_at Hl.out (j := k) (by omega)
  obtain ⟨V', hV'⟩ := cell?_setCell_some (w := w1) (p := ⟨g, i, none⟩) (x := .int .i64 Y) (q := ⟨g, k, none⟩) (v := .int .i64 Y') cY'
  have hfin := hide (((hown.store Hl.out i Y).1.store (by rw [List.length_set]; exact Hl.out) k X).1)
  have hsw := hide (sw_get HX.out HY.out)
  have i0 : (0 : Int) ≤ (i : Int) := by omega
  have i1 : (i : Int) < (n : Int) := by omega
  have i2 : (0 : Int) ≤ (k : Int) := by omega
  have i3 : (k : Int) < (n : Int) := by omega
  have hbg : b ≠ g := by omega
  clear hX' hY' hown hb1 cX cY
  go_region
  all_goals
    go_wp2_with fail
    go_ret
    exact ⟨⟨_, rfl, by rw [← hsw.out]; exact hfin.out⟩, by go_grown⟩
end Go.Proofs.Ytalecppofemcnaa
