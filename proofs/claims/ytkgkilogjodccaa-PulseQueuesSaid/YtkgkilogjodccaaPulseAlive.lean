/-
  The walk of the law's own example for package pulse.
-/
import Derived.Test.YtkgkilogjodccaaPulse
namespace Go.Proofs.Ytkgkilogjodccaa
open Go.RowKit HB PulseP

set_option maxRecDepth 100000 in
set_option maxHeartbeats 2000000 in
theorem pulse_alive2 (w : World) : Calls Try.prog 37 #[] w fun e w' => e = .returned (.bool true) ∧ Below w.heap.size w w' := by
  have hw : ∀ x ∈ [(0 : Int), 1, 5], (Lit.int .i64 x).wf = true := by decide
  have Hw := hide hw
  clear hw
  go_enter Try.func37, Try.ntmps37
  go_wp2_with fail
  refine (count_ok _ 3 3 _ 4 [0, 1, 5] 2 7 _ (Rd.new w 3 (xs := [.int .i64 0, .int .i64 1, .int .i64 5]) rfl) (by simp) rfl (by omega) Hw.out (by omega) (by omega) (by omega) (by omega) (by decide) (by omega)).mono ?_; rintro e w1 ⟨v, rfl, hown, hb1⟩
  obtain ⟨A, c, rfl, hc, hrd⟩ := hown.ints
  have e1 : counts 7 2 4 [0, 1, 5] = [2, 0, 1, 0] := by decide
  simp only [e1] at hc hrd ⊢
  clear hown e1
  have HR := hide (hrd.alloc (Nat.le_refl _) (.cells #[.int .i64 2, .int .i64 0, .int .i64 1, .int .i64 0] 3))
  clear hrd
  go_wp2_with fail
  refine (eqInt _ _ _ _ _ _ _ _ [2, 0, 1, 0] [2, 0, 1, 0] _ HR.out (Rd.new w1 3 (xs := [.int .i64 2, .int .i64 0, .int .i64 1, .int .i64 0]) rfl) (by simp) (by omega)).mono ?_; rintro e w2 ⟨rfl, m, rfl⟩
  simp only [decide_true]
  go_wp2_with fail
  go_ret
  exact ⟨rfl, below_drewN (Below.alloc (then_ (by go_grown) hb1 (by simp)) (by have := hb1.size; simp at this; omega) _) _⟩
end Go.Proofs.Ytkgkilogjodccaa
