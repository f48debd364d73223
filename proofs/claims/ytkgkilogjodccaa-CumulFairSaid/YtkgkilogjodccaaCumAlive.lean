/-
  The walk of the law's own example for package cumul.
-/
import Derived.Test.YtkgkilogjodccaaCumT
import Derived.Test.YtkgkilogjodccaaEqU64
namespace Go.Proofs.Ytkgkilogjodccaa
open Go.RowKit HB CumP
set_option linter.unusedVariables false
set_option linter.unusedSimpArgs false
theorem many_zero : Many 0 1 := by
  refine ⟨by omega, by omega, fun i hi => ?_, fun _ => by simp [wt]⟩
  obtain rfl : i = 0 := by omega
  simp [wt]
set_option maxRecDepth 100000 in
set_option maxHeartbeats 2000000 in
theorem cum_alive (w : World) : Calls Try.prog 17 #[] w fun e w' => e = .returned (.bool true) ∧ Below w.heap.size w w' := by
  go_enter Try.func17, Try.ntmps17
  go_wp2_with fail
  refine (cum_table 0 (by omega) (by omega) _).mono ?_; rintro e w1 ⟨v, m, rfl, hm, hown, hb1⟩
  obtain rfl := hm.one many_zero
  obtain ⟨A, c, rfl, hc, hrd⟩ := hown.ints
  have e1 : tb 0 1 1 = [4294967296] := by decide +kernel
  simp only [e1] at hc hrd ⊢
  clear hown e1 hm
  have HR := hide (hrd.alloc (Nat.le_refl _) (.cells #[.int .u64 4294967296] 28))
  clear hrd
  go_wp2_with fail
  refine (eqU64 _ _ _ _ _ _ _ _ [4294967296] [4294967296] _ HR.out (Rd.new w1 28 (xs := [.int .u64 4294967296]) rfl) (by simp) (by omega)).mono ?_; rintro e w2 ⟨rfl, m, rfl⟩
  simp only [decide_true]
  go_wp2_with fail
  go_ret
  exact ⟨rfl, below_drewN (Below.alloc hb1 hb1.size _) _⟩
end Go.Proofs.Ytkgkilogjodccaa
