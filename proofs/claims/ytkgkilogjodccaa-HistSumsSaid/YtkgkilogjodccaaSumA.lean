/-
  The walk of hist.Add.
-/
import Derived.Test.YtkgkilogjodccaaSumH
namespace Go.Proofs.Ytkgkilogjodccaa
open Go.RowKit HB SumH HistP
set_option linter.unusedVariables false
set_option linter.unusedSimpArgs false

def Add.Post (a b : List Int) (m : Nat) (w : World) (e : Ending) (w' : World) : Prop :=
  ∃ v, e = .returned v ∧ Own w' w.heap.size 3 1 (num .i64) v (adds a b m) ∧ Below w.heap.size w w'

set_option maxRecDepth 100000 in
set_option maxHeartbeats 2000000 in
theorem hist_add_ge (AX AY : Option Addr) (nx cx ny cy : Nat) (x y : List Int) (w : World) (hx : Rd w w.heap.size 1 AX nx (x.map (Value.int .i64))) (hlx : x.length = nx) (hy : Rd w w.heap.size 1 AY ny (y.map (Value.int .i64))) (hly : y.length = ny) (hn : nx ≤ 101) (hwx : ∀ u ∈ x, wrap64 u = u) (hle : ny ≤ nx) :
    Calls Try.prog 35 #[.slice AX nx cx, .slice AY ny cy] w (Add.Post x y nx w) := by
  have HX := hide hlx
  have HY := hide hly
  have WX := hide hwx
  have d1 : decide (nx < ny) = false := by simp; omega
  clear hlx hly hwx
  go_enter Try.func35, Try.ntmps35
  go_wp2_with (at_builtin; refine pushAll rfl _ _ 35 rfl Try.underlying35 Sums.info rfl (by omega) (by omega) rfl (Own.nil _ w.heap.size _ _ _) x w.heap.size AX nx cx rfl HX.out (by rw [map_flat]; exact hx) (by rw [map_flat]; intro u hu; obtain ⟨z, _, rfl⟩ := List.mem_map.1 hu; rfl) (by simp) (by omega) (by omega) ?_; intro v' w1 hown1 hb1)
  rw [List.nil_append] at hown1
  have HO1 := hide hown1
  have hz1 := hb1.size
  clear hown1
  go_loopw [19] (fun i wr => ∃ j : Nat, j ≤ ny ∧ i = .int .i64 j ∧ Own wr w.heap.size 3 1 (num .i64) v' (prt x y j) ∧ Below w.heap.size w wr) (fun i _ => ny - (intOf i).toNat)
  case atStart => exact ⟨0, Nat.zero_le _, rfl, by rw [prt_zero]; exact HO1.out, hb1⟩
  case round =>
    clear hz1 hb1 HO1
    obtain ⟨j, hj, rfl, hown, hbel⟩ := hrel
    have HO := hide hown
    clear hown
    by_cases hlt : j < ny
    · obtain ⟨b, off, u, rfl, hb, hg, c0⟩ := (hy.below hbel).int_at HY.out hlt
      have hL : (prt x y j).length = nx := by rw [prt_length, HX.out]
      have hown := HO.out
      obtain ⟨g, cap, rfl, hgB, hgW, hcap, -, -⟩ := hown.at_ (by rw [hL]; omega)
      rw [hL] at hown hcap
      simp only [hL]
      obtain ⟨z, hzg, cz, fz⟩ := hown.int_at hL (j := j) (by omega)
      have hxg : x[j]? = some (x[j]'(by rw [HX.out]; omega)) := List.getElem?_eq_getElem _
      generalize x[j]'(by rw [HX.out]; omega) = z' at hxg
      obtain rfl := prt_get hzg hxg
      have hst := hide (hown.store hL j (wrap64 (z + u)))
      have hn := hide (prt_next hxg hg)
      have i0 : (0 : Int) ≤ (j : Int) := by omega
      have i1 : (j : Int) < (nx : Int) := by omega
      clear hzg hxg hg hown HO hL hx hy
      go_wp2_with fail
      go_roundw
      case rel => exact ⟨j + 1, by omega, by go_num, by rw [← hn.out]; exact hst.out.1, hbel.trans hst.out.2⟩
      case measure => simp [intOf]; omega
    · obtain rfl : j = ny := by omega
      have he := hide (prt_end (x := x) (y := y) (j := j) (by rw [HY.out]; exact Nat.le_refl _) WX.out)
      clear hx hy
      go_wp2_with fail
      go_ret
      exact ⟨_, rfl, by rw [← HX.out, ← he.out]; exact HO.out, hbel⟩

set_option maxRecDepth 100000 in
set_option maxHeartbeats 2000000 in
theorem hist_add_lt (AX AY : Option Addr) (nx cx ny cy : Nat) (x y : List Int) (w : World) (hx : Rd w w.heap.size 1 AX nx (x.map (Value.int .i64))) (hlx : x.length = nx) (hy : Rd w w.heap.size 1 AY ny (y.map (Value.int .i64))) (hly : y.length = ny) (hn : nx ≤ 101) (hwx : ∀ u ∈ x, wrap64 u = u) (hle : ny < nx) :
    Calls Try.prog 35 #[.slice AY ny cy, .slice AX nx cx] w (Add.Post y x nx w) := by
  have HX := hide hlx
  have HY := hide hly
  have WX := hide hwx
  have d1 : decide (ny < nx) = true := by simp; omega
  clear hlx hly hwx
  go_enter Try.func35, Try.ntmps35
  go_wp2_with (at_builtin; refine pushAll rfl _ _ 35 rfl Try.underlying35 Sums.info rfl (by omega) (by omega) rfl (Own.nil _ w.heap.size _ _ _) x w.heap.size AX nx cx rfl HX.out (by rw [map_flat]; exact hx) (by rw [map_flat]; intro u hu; obtain ⟨z, _, rfl⟩ := List.mem_map.1 hu; rfl) (by simp) (by omega) (by omega) ?_; intro v' w1 hown1 hb1)
  rw [List.nil_append] at hown1
  have HO1 := hide hown1
  have hz1 := hb1.size
  clear hown1
  go_loopw [19] (fun i wr => ∃ j : Nat, j ≤ ny ∧ i = .int .i64 j ∧ Own wr w.heap.size 3 1 (num .i64) v' (prt x y j) ∧ Below w.heap.size w wr) (fun i _ => ny - (intOf i).toNat)
  case atStart => exact ⟨0, Nat.zero_le _, rfl, by rw [prt_zero]; exact HO1.out, hb1⟩
  case round =>
    clear hz1 hb1 HO1
    obtain ⟨j, hj, rfl, hown, hbel⟩ := hrel
    have HO := hide hown
    clear hown
    by_cases hlt : j < ny
    · obtain ⟨b, off, u, rfl, hb, hg, c0⟩ := (hy.below hbel).int_at HY.out hlt
      have hL : (prt x y j).length = nx := by rw [prt_length, HX.out]
      have hown := HO.out
      obtain ⟨g, cap, rfl, hgB, hgW, hcap, -, -⟩ := hown.at_ (by rw [hL]; omega)
      rw [hL] at hown hcap
      simp only [hL]
      obtain ⟨z, hzg, cz, fz⟩ := hown.int_at hL (j := j) (by omega)
      have hxg : x[j]? = some (x[j]'(by rw [HX.out]; omega)) := List.getElem?_eq_getElem _
      generalize x[j]'(by rw [HX.out]; omega) = z' at hxg
      obtain rfl := prt_get hzg hxg
      have hst := hide (hown.store hL j (wrap64 (z + u)))
      have hn := hide (prt_next hxg hg)
      have i0 : (0 : Int) ≤ (j : Int) := by omega
      have i1 : (j : Int) < (nx : Int) := by omega
      clear hzg hxg hg hown HO hL hx hy
      go_wp2_with fail
      go_roundw
      case rel => exact ⟨j + 1, by omega, by go_num, by rw [← hn.out]; exact hst.out.1, hbel.trans hst.out.2⟩
      case measure => simp [intOf]; omega
    · obtain rfl : j = ny := by omega
      have he := hide (prt_end (x := x) (y := y) (j := j) (by rw [HY.out]; exact Nat.le_refl _) WX.out)
      clear hx hy
      go_wp2_with fail
      go_ret
      exact ⟨_, rfl, by rw [adds_comm, ← HX.out, ← he.out]; exact HO.out, hbel⟩

theorem hist_add (A A' : Option Addr) (n c n' c' : Nat) (a b : List Int) (w : World) (ha : Rd w w.heap.size 1 A n (a.map (Value.int .i64))) (hla : a.length = n) (hb : Rd w w.heap.size 1 A' n' (b.map (Value.int .i64))) (hlb : b.length = n') (hn : n ≤ 101) (hn' : n' ≤ 101) (hwa : ∀ u ∈ a, wrap64 u = u) (hwb : ∀ u ∈ b, wrap64 u = u) :
    Calls Try.prog 35 #[.slice A n c, .slice A' n' c'] w (Add.Post a b (max n n') w) := by
  by_cases h : n < n'
  · rw [show max n n' = n' by omega]
    exact hist_add_lt A' A n' c' n c b a w hb hlb ha hla hn' hwb h
  · rw [show max n n' = n by omega]
    exact hist_add_ge A A' n c n' c' a b w ha hla hb hlb hn hwa (by omega)
end Go.Proofs.Ytkgkilogjodccaa
