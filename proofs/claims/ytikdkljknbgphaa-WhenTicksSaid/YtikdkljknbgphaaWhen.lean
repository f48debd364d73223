/-
  The walks of package when, over segments that read as a list.
-/
import Derived.Test.YtikdkljknbgphaaProg
import Derived.Test.YtikdkljknbgphaaBase
import Derived.Test.YtikdkljknbgphaaWhenPlain
namespace Go.Proofs.Ytikdkljknbgphaa
open Go.RowKit HB WhenP

/-- A segment's cells. -/
abbrev When.seg : Seg → List Value := fun g => [.int .i64 g.1, .int .i64 g.2.1, .int .i64 g.2.2]
theorem When.cells {w : World} {B n : Nat} {A : Option Addr} {l : List Seg} (h : Rd w B 3 A n (l.flatMap When.seg)) (hl : l.length = n) {k : Nat} (hk : k < n) :
    ∃ b off g, A = some ⟨b, off, none⟩ ∧ b < B ∧ l[k]? = some g ∧ w.cell? ⟨b, off + k * 3, none⟩ = some (.int .i64 g.1) ∧ w.cell? ⟨b, off + k * 3 + 1, none⟩ = some (.int .i64 g.2.1) ∧ w.cell? ⟨b, off + k * 3 + 2, none⟩ = some (.int .i64 g.2.2) := by
  obtain ⟨b, off, hA, hb, hc⟩ := h.at_ (by omega)
  have hg : l[k]? = some (l[k]'(by omega)) := List.getElem?_eq_getElem _
  generalize l[k]'(by omega) = g at hg
  have key : ∀ j u, j < 3 → (When.seg g)[j]? = some u → w.cell? ⟨b, off + k * 3 + j, none⟩ = some u := fun j u hj hu => by
    rw [Nat.add_assoc]
    exact hc _ _ ((flat_get (f := When.seg) (m := 3) (fun _ => rfl) l k j g hg hj).trans hu)
  exact ⟨b, off, g, hA, hb, hg, key 0 _ (by omega) rfl, key 1 _ (by omega) rfl, key 2 _ (by omega) rfl⟩

theorem when_ticks (a b c : Int) (w : World) :
    Calls Try.prog 53 #[.agg #[.int .i64 a, .int .i64 b, .int .i64 c]] w fun e w' => e = .returned (.int .i64 (tk (a, b, c))) ∧ Below w.heap.size w w' := by
  go_enter Try.func53, Try.ntmps53
  go_wp2_with fail
  go_ret
  exact ⟨rfl, by go_grown⟩

def When.Sum (l : List Seg) (w : World) (s i : Value) (wr : World) : Prop := ∃ k : Nat, k ≤ l.length ∧ i = .int .i64 k ∧ s = .int .i64 (upto l k) ∧ Below w.heap.size w wr
set_option maxRecDepth 100000 in
set_option maxHeartbeats 1000000 in
theorem when_total (A : Option Addr) (n c B : Nat) (l : List Seg) (w : World) (hr : Rd w B 3 A n (l.flatMap When.seg)) (hl : l.length = n) (hn : n ≤ 30) (hB : B ≤ w.heap.size) :
    Calls Try.prog 31 #[.slice A n c] w fun e w' => e = .returned (.int .i64 (tot l)) ∧ Below w.heap.size w w' := by
  have Hl := hide hl
  clear hl
  go_enter Try.func31, Try.ntmps31
  go_wp2_with fail
  go_loopw [3, 8] (fun s i wr => When.Sum l w s i wr) (fun _ i _ => n - (intOf i).toNat)
  case atStart => exact ⟨0, Nat.zero_le _, rfl, rfl, Below.refl _ _⟩
  case round =>
    obtain ⟨k, hk, rfl, rfl, hbel⟩ := hrel
    rw [Hl.out] at hk
    have hz := hbel.size
    by_cases hlt : k < n
    · obtain ⟨b, off, g, rfl, hb, hg, c0, c1, c2⟩ := When.cells (hr.below (hbel.mono hB)) Hl.out hlt
      have hG := hide (upto_succ hg)
      have hu := upto_range l k
      have ht := tk_range g
      rw [Hl.out] at hu
      clear hg hr
      obtain ⟨g1, g2, g3⟩ := g
      go_wp2_with (go_at_call 53; refine (when_ticks _ _ _ _).mono ?_; rintro e w1 ⟨rfl, hb1⟩)
      go_roundw
      case rel => exact ⟨k + 1, by rw [Hl.out]; omega, by go_num, by rw [hG.out], then_ (hbel.alloc hz _) hb1 (Nat.le_refl _)⟩
      case measure => simp [intOf]; omega
    · have hk' : upto l k = tot l := upto_all l k (by rw [Hl.out]; omega)
      have Hk := hide hk'
      clear hk'
      go_wp2_with fail
      go_ret
      exact ⟨ret_int Hk.out, hbel⟩

/-- What the loop of At keeps. -/
def When.Look (l : List Seg) (tick : Int) (w : World) (t i : Value) (wr : World) : Prop := ∃ k : Nat, k ≤ l.length ∧ i = .int .i64 k ∧ t = .int .i64 (tick - upto l k) ∧ upto l k ≤ tick ∧ Below w.heap.size w wr
def When.AtPost (l : List Seg) (tick : Int) (w : World) (e : Ending) (w' : World) : Prop := ∃ (j : Int) (ok : Bool), e = .returned (.tuple #[.int .i64 j, .bool ok]) ∧ At l l.length tick j ok ∧ Below w.heap.size w w'
set_option maxRecDepth 100000 in
set_option maxHeartbeats 1000000 in
theorem when_at (A : Option Addr) (n c B : Nat) (l : List Seg) (tick : Int) (w : World) (hr : Rd w B 3 A n (l.flatMap When.seg)) (hl : l.length = n) (hn : n ≤ 30) (hB : B ≤ w.heap.size) (ht0 : -9223372036854775808 ≤ tick) (ht1 : tick ≤ 9223372036854775807) :
    Calls Try.prog 29 #[.slice A n c, .int .i64 tick] w (When.AtPost l tick w) := by
  have Hl := hide hl
  clear hl
  by_cases hneg : tick < 0
  · go_enter Try.func29, Try.ntmps29
    go_wp2_with fail
    go_ret2
    exact ⟨0, false, rfl, .inr ⟨rfl, rfl, .inl hneg⟩, Below.refl _ _⟩
  have hd : decide (tick < 0) = false := by simp; omega
  have hpos : 0 ≤ tick := by omega
  clear hneg
  go_enter Try.func29, Try.ntmps29
  go_wp2_with fail
  go_loopw [1, 12] (fun t i wr => When.Look l tick w t i wr) (fun _ i _ => n - (intOf i).toNat)
  case atStart => exact ⟨0, Nat.zero_le _, rfl, by rw [upto_zero]; go_num, by rw [upto_zero]; exact hpos, Below.refl _ _⟩
  case round =>
    obtain ⟨k, hk, rfl, rfl, hle, hbel⟩ := hrel
    rw [Hl.out] at hk
    have hz := hbel.size
    have hu := upto_range l k
    rw [Hl.out] at hu
    by_cases hlt : k < n
    · obtain ⟨b, off, g, rfl, hb, hg, c0, c1, c2⟩ := When.cells (hr.below (hbel.mono hB)) Hl.out hlt
      have hG := hide (upto_succ hg)
      have ht := tk_range g
      clear hg hr
      obtain ⟨g1, g2, g3⟩ := g
      have hz1 : wr.heap.size < wr.heap.size + 1 := by omega
      by_cases hin : tick - upto l k < tk (g1, g2, g3)
      · go_wp2_with (go_at_call 53; refine (when_ticks _ _ _ _).mono ?_; rintro e w1 ⟨rfl, hb1⟩)
        go_ret2
        refine ⟨k, true, rfl, .inl ⟨rfl, k, by rw [Hl.out]; exact hlt, rfl, hle, by rw [hG.out]; omega⟩, then_ (hbel.alloc hz _) hb1 (Nat.le_refl _)⟩
      · have hge : tk (g1, g2, g3) ≤ tick - upto l k := by omega
        clear hin
        go_wp2_with fail
        refine (when_ticks _ _ _ _).mono ?_; rintro e w1 ⟨rfl, hb1⟩
        have k0 := hold1 hb1 (p := ⟨wr.heap.size, 0, none⟩) (v := .int .i64 g1) (by simp)
        have k1 := hold1 hb1 (p := ⟨wr.heap.size, 1, none⟩) (v := .int .i64 g2) (by simp)
        have k2 := hold1 hb1 (p := ⟨wr.heap.size, 2, none⟩) (v := .int .i64 g3) (by simp)
        go_wp2_with fail
        refine (when_ticks _ _ _ _).mono ?_; rintro e w2 ⟨rfl, hb2⟩
        go_wp2_with fail
        go_roundw
        case rel => exact ⟨k + 1, by rw [Hl.out]; omega, by go_num, by rw [hG.out]; go_num, by rw [hG.out]; omega, then_ (then_ (hbel.alloc hz _) hb1 (Nat.le_refl _)) hb2 (Nat.le_refl _)⟩
        case measure => simp [intOf]; omega
    · have hk' : upto l k = upto l l.length := by rw [upto_all l k (by rw [Hl.out]; omega), upto_all l l.length (Nat.le_refl _)]
      have Hk := hide hk'
      clear hk'
      go_wp2_with fail
      go_ret2
      exact ⟨0, false, rfl, .inr ⟨rfl, rfl, .inr (by rw [← Hk.out]; exact hle)⟩, hbel⟩

set_option maxHeartbeats 1000000 in
theorem when_start_no (A : Option Addr) (n c : Nat) (i : Int) (w : World) (hi : i < 0 ∨ (n : Int) ≤ i) :
    Calls Try.prog 30 #[.slice A n c, .int .i64 i] w fun e w' => e = .returned (.tuple #[.int .i64 0, .bool false]) ∧ Below w.heap.size w w' := by
  by_cases h0 : i < 0
  · clear hi
    go_enter Try.func30, Try.ntmps30
    go_wp2_with fail
    go_ret2
    exact ⟨rfl, Below.refl _ _⟩
  · have h1 : (n : Int) ≤ i := by omega
    clear hi
    go_enter Try.func30, Try.ntmps30
    go_wp2_with fail
    go_ret2
    exact ⟨rfl, Below.refl _ _⟩
set_option maxHeartbeats 1000000 in
theorem when_start (A : Option Addr) (n c B : Nat) (l : List Seg) (i : Nat) (w : World) (hr : Rd w B 3 A n (l.flatMap When.seg)) (hl : l.length = n) (hn : n ≤ 30) (hc : n ≤ c) (hB : B ≤ w.heap.size) (hi : i < n) :
    Calls Try.prog 30 #[.slice A n c, .int .i64 i] w fun e w' => e = .returned (.tuple #[.int .i64 (upto l i), .bool true]) ∧ Below w.heap.size w w' := by
  have h0 : (0 : Int) ≤ (i : Int) := by omega
  have h1 : (i : Int) < (n : Int) := by omega
  have h2 : (i : Int) ≤ (c : Int) := by omega
  have hr1 := hr.front (k := i) (by omega)
  rw [flat_take (f := When.seg) (m := 3) (fun _ => rfl)] at hr1
  have hr' := hide hr1
  have Hl' := hide (show (l.take i).length = i by rw [List.length_take]; omega)
  clear hr1 hr hl
  go_enter Try.func30, Try.ntmps30
  go_wp2_with fail
  refine (when_total A i c B (l.take i) _ hr'.out Hl'.out (by omega) hB).mono ?_; rintro e w1 ⟨rfl, hb1⟩
  go_wp2_with fail
  go_ret2
  exact ⟨rfl, hb1⟩

set_option maxHeartbeats 1000000 in
theorem when_alive (w : World) : Calls Try.prog 32 #[] w fun e w' => e = .returned (.bool true) ∧ Below w.heap.size w w' := by
  go_enter Try.func32, Try.ntmps32
  go_wp2_with fail
  refine (when_at _ 2 2 _ [(0, 5, 0), (0, 3, 0)] 6 _ (Rd.new w _ rfl) rfl (by omega) (by simp) (by omega) (by omega)).mono ?_; rintro e w1 ⟨j, ok, rfl, hat, hb1⟩
  obtain ⟨rfl, rfl⟩ := At.one hat (show At [(0, 5, 0), (0, 3, 0)] 2 6 1 true from .inl ⟨rfl, 1, by omega, rfl, by decide, by decide⟩)
  go_wp2_with fail
  go_ret
  exact ⟨rfl, then_ (by go_grown) hb1 (Nat.le_refl _)⟩
end Go.Proofs.Ytikdkljknbgphaa
