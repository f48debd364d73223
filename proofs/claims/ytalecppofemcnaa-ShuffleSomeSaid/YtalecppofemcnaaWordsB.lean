/-
  The walks of package words (Left, Next, Below) over a stream whose words read as a list.
-/
import Derived.Test.YtalecppofemcnaaScale
import Derived.Test.YtalecppofemcnaaEqU32
namespace Go.Proofs.Ytalecppofemcnaa
open Go.RowKit HB PickP

abbrev Words.st (A : Option Addr) (n c : Nat) (at_ : Int) : Value := .agg #[.slice A n c, .int .i64 at_]
abbrev Words.box (A : Option Addr) (n c : Nat) (at_ : Int) : Obj := .cells #[.slice A n c, .int .i64 at_] 24
/-- How many words are left. -/
def Words.left (at_ : Int) (n : Nat) : Int := if at_ < 0 ∨ (n : Int) < at_ then 0 else n - at_

theorem words_left (A : Option Addr) (n c : Nat) (at_ : Int) (hn : n ≤ 1000000000) (w : World) :
    Calls Try.prog 53 #[Words.st A n c at_] w fun e w' => e = .returned (.int .i64 (Words.left at_ n)) ∧ w.alloc (Words.box A n c at_) = w' := by
  by_cases h0 : at_ < 0
  · go_enter Try.func53, Try.ntmps53
    go_wp2_with fail
    go_ret
    exact ⟨ret_int (by unfold Words.left; rw [if_pos (.inl h0)]), rfl⟩
  · by_cases h1 : (n : Int) < at_
    · go_enter Try.func53, Try.ntmps53
      go_wp2_with fail
      go_ret
      exact ⟨ret_int (by unfold Words.left; rw [if_pos (.inr h1)]), rfl⟩
    · go_enter Try.func53, Try.ntmps53
      go_wp2_with fail
      go_ret
      exact ⟨ret_int (by unfold Words.left; rw [if_neg (by omega)]), rfl⟩

set_option maxHeartbeats 1000000 in
theorem words_next_dry (A : Option Addr) (n c : Nat) (at_ : Int) (hn : n ≤ 1000000000) (w : World) (hd : at_ < 0 ∨ (n : Int) ≤ at_) :
    Calls Try.prog 51 #[Words.st A n c at_] w fun e w' => e = .returned (.tuple #[.int .u32 0, Words.st A n c at_, .int .i64 50]) ∧ Below w.heap.size w w' := by
  have hl : Words.left at_ n = 0 := by unfold Words.left; split <;> omega
  have L := hide hl
  clear hl hd
  go_enter Try.func51, Try.ntmps51
  go_wp2_with (go_at_call 53; refine (words_left _ _ _ _ hn _).mono ?_; rintro e w' ⟨rfl, rfl⟩; simp only [L.out])
  go_region
  all_goals
    go_wp2_with fail
    go_returns
    exact ⟨rfl, by go_grown⟩

set_option maxHeartbeats 1000000 in
theorem words_next (b off n c k : Nat) (x : Int) (hn : n ≤ 1000000000) (w : World) (hk : k < n) (hc : w.cell? ⟨b, off + k, none⟩ = some (.int .u32 x)) :
    Calls Try.prog 51 #[Words.st (some ⟨b, off, none⟩) n c k] w fun e w' => e = .returned (.tuple #[.int .u32 x, Words.st (some ⟨b, off, none⟩) n c (k + 1), .int .i64 0]) ∧ Below w.heap.size w w' := by
  have hl : Words.left k n = n - k := by unfold Words.left; rw [if_neg (by omega)]
  have L := hide hl
  have hb := World.new_ne w _ hc
  have hlt := sizes (World.block_lt_of_cell? w _ hc)
  have i0 : (0 : Int) ≤ (k : Int) := by omega
  have i1 : (k : Int) < (n : Int) := by omega
  have hz : (((n : Int) - (k : Int)) == 0) = false := by rw [beq_eq_false_iff_ne]; omega
  clear hl
  go_enter Try.func51, Try.ntmps51
  go_wp2_with (go_at_call 53; refine (words_left _ _ _ _ hn _).mono ?_; rintro e w' ⟨rfl, rfl⟩; simp only [L.out])
  go_region
  all_goals
    go_wp2_with fail
    go_returns
    exact ⟨rfl, by go_grown⟩

theorem words_below_zero (A : Option Addr) (n c : Nat) (at_ : Int) (w : World) :
    Calls Try.prog 37 #[Words.st A n c at_, .int .u32 0] w fun e w' => e = .returned (.tuple #[.int .u32 0, Words.st A n c at_, .int .i64 22]) ∧ Below w.heap.size w w' := by
  go_enter Try.func37, Try.ntmps37
  go_wp2_with fail
  go_region
  all_goals
    go_wp2_with fail
    go_returns
    exact ⟨rfl, by go_grown⟩

set_option maxHeartbeats 1000000 in
theorem words_below_dry (A : Option Addr) (n c : Nat) (at_ b : Int) (hn : n ≤ 1000000000) (hb0 : (b == 0) = false) (w : World) (hd : at_ < 0 ∨ (n : Int) ≤ at_) :
    Calls Try.prog 37 #[Words.st A n c at_, .int .u32 b] w fun e w' => e = .returned (.tuple #[.int .u32 0, Words.st A n c at_, .int .i64 50]) ∧ Below w.heap.size w w' := by
  have D := hide hd
  clear hd
  go_enter Try.func37, Try.ntmps37
  go_wp2_with fail
  refine (words_next_dry _ _ _ _ hn _ D.out).mono ?_; rintro e w1 ⟨rfl, hb1⟩
  have k0 := hold1 hb1 (p := ⟨w.heap.size, 0, none⟩) (v := .slice A n c) (by simp)
  have k1 := hold1 hb1 (p := ⟨w.heap.size, 1, none⟩) (v := .int .i64 at_) (by simp)
  have k2 := hold1 hb1 (p := ⟨w.heap.size + 1, 0, none⟩) (v := .slice none 0 0) (by simp [go_sem])
  have k3 := hold1 hb1 (p := ⟨w.heap.size + 1, 1, none⟩) (v := .int .i64 0) (by simp [go_sem])
  have f2 := holdf hb1 (p := ⟨w.heap.size + 1, 0, none⟩) (by simp) (by simp [go_sem])
  have f3 := holdf hb1 (p := ⟨w.heap.size + 1, 1, none⟩) (by simp) (by simp [go_sem])
  have z0 := sizes (szb (k := w.heap.size) hb1 (by simp; omega))
  have z1 := sizes (szb (k := w.heap.size + 1) hb1 (by simp))
  have hB := then_ (show Below w.heap.size w _ from by go_grown) hb1 (Nat.le_refl _)
  clear hb1
  go_wp2_with fail
  refine letter (w := w) (fun W => W.cell? ⟨w.heap.size, 0, none⟩ = some (.slice A n c) ∧ W.cell? ⟨w.heap.size, 1, none⟩ = some (.int .i64 at_) ∧ W.cell? ⟨w.heap.size + 1, 0, none⟩ = some (.slice none 0 0) ∧ W.cell? ⟨w.heap.size + 1, 1, none⟩ = some (.int .i64 0) ∧
    W.frozen? ⟨w.heap.size + 1, 0, none⟩ = false ∧ W.frozen? ⟨w.heap.size + 1, 1, none⟩ = false) (by simp [go_sem, *]) (hB.alloc z0.2.1 _) (by simp [*]) ?_
  clear k0 k1 k2 k3 f2 f3 z0 z1 hB
  rintro W ⟨k0, k1, k2, k3, f2, f3⟩ hB hz
  have s2 := set_same k2
  have s3 := set_same2 ⟨w.heap.size + 1, 0, none⟩ (by simp) k3
  go_region
  all_goals
    go_wp2_with fail
    exact bodyPost_ret (v := .tuple #[.int .u32 0, Words.st A n c at_, .int .i64 50]) (by simp [results, Try.results37, go_sem, s2, s3]) rfl ⟨rfl, by go_grown⟩

set_option maxRecDepth 100000 in
set_option maxHeartbeats 2000000 in
theorem words_below (b off n c k : Nat) (x y : Int) (hn : n ≤ 1000000000) (hb0 : (y == 0) = false) (hx : 0 ≤ x) (hx1 : x ≤ 4294967295) (hy : 0 ≤ y) (hy1 : y ≤ 4294967295) (w : World) (hk : k < n) (hc : w.cell? ⟨b, off + k, none⟩ = some (.int .u32 x)) :
    Calls Try.prog 37 #[Words.st (some ⟨b, off, none⟩) n c k, .int .u32 y] w fun e w' => e = .returned (.tuple #[.int .u32 (num x y), Words.st (some ⟨b, off, none⟩) n c (k + 1), .int .i64 0]) ∧ Below w.heap.size w w' := by
  have hlt := World.block_lt_of_cell? w _ hc
  have Hc := hide hc
  clear hc
  go_enter Try.func37, Try.ntmps37
  go_wp2_with fail
  refine (words_next b off n c k x hn _ hk (by simp [go_sem, Hc.out, sizes hlt])).mono ?_; rintro e w1 ⟨rfl, hb1⟩
  have k2 := hold1 hb1 (p := ⟨w.heap.size + 1, 0, none⟩) (v := .slice none 0 0) (by simp [go_sem])
  have k3 := hold1 hb1 (p := ⟨w.heap.size + 1, 1, none⟩) (v := .int .i64 0) (by simp [go_sem])
  have f2 := holdf hb1 (p := ⟨w.heap.size + 1, 0, none⟩) (by simp) (by simp [go_sem])
  have f3 := holdf hb1 (p := ⟨w.heap.size + 1, 1, none⟩) (by simp) (by simp [go_sem])
  have z0 := sizes (szb (k := w.heap.size) hb1 (by simp; omega))
  have z1 := sizes (szb (k := w.heap.size + 1) hb1 (by simp))
  have hB := then_ (show Below w.heap.size w _ from by go_grown) hb1 (Nat.le_refl _)
  clear hb1
  go_wp2_with fail
  refine letter (w := w) (fun W => W.cell? ⟨w1.heap.size, 0, none⟩ = some (.slice (some ⟨b, off, none⟩) n c) ∧ W.cell? ⟨w1.heap.size, 1, none⟩ = some (.int .i64 ((k : Int) + 1)) ∧ W.cell? ⟨w.heap.size + 1, 0, none⟩ = some (.slice none 0 0) ∧ W.cell? ⟨w.heap.size + 1, 1, none⟩ = some (.int .i64 0) ∧
    W.frozen? ⟨w.heap.size + 1, 0, none⟩ = false ∧ W.frozen? ⟨w.heap.size + 1, 1, none⟩ = false) (by simp [go_sem, *]) (hB.alloc z0.2.1 _) (by simp [*]) ?_
  have hne : w1.heap.size ≠ w.heap.size + 1 := by omega
  clear k2 k3 f2 f3 z0 z1 hB
  generalize w1.heap.size = g at *
  rintro W ⟨k0, k1, k2, k3, f2, f3⟩ hB hz
  have hne' : w.heap.size + 1 ≠ g := Ne.symm hne
  have s2 := set_same k2
  have s3 := set_same2 ⟨w.heap.size + 1, 0, none⟩ (by simp) k3
  go_region_held3 (fun w' => w'.cell? ⟨g, 0, none⟩ = some (.slice (some ⟨b, off, none⟩) n c) ∧ w'.cell? ⟨g, 1, none⟩ = some (.int .i64 ((k : Int) + 1))) (go_keep)
    (first | (go_at_call 52; refine (words_scale _ _ hx hx1 hy hy1 _).mono ?_; rintro e w' ⟨rfl, rfl⟩))
  all_goals
    go_wp2_with fail
    exact bodyPost_ret (v := .tuple #[.int .u32 (num x y), Words.st (some ⟨b, off, none⟩) n c (k + 1), .int .i64 0]) (by simp [results, Try.results37, go_sem, s2, s3]) rfl ⟨rfl, by go_grown⟩
end Go.Proofs.Ytalecppofemcnaa
