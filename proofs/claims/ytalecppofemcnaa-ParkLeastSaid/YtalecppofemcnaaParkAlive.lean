/-
  The walk of the law's own example for package park.
-/
import Derived.Test.YtalecppofemcnaaParkBest
import Derived.Test.YtalecppofemcnaaEqInt
namespace Go.Proofs.Ytalecppofemcnaa
open Go.RowKit HB ParkP
set_option linter.unusedVariables false
set_option linter.unusedSimpArgs false
set_option maxRecDepth 100000 in
set_option maxHeartbeats 2000000 in
theorem park_alive (w : World) : Calls Try.prog 32 #[] w fun e w' => e = .returned (.bool true) ∧ Below w.heap.size w w' := by
  have hok : okP [1, 0, 0, 1] = true := by decide
  have e1 : bst [1, 0, 0, 1] 4 (2 + 1) = 2 := by decide
  have e2 : tc [1, 0, 0, 1] 2 4 = 0 := by decide
  have e3 : reco [1, 0, 0, 1] 2 4 = [0, 3] := by decide
  have hC := fun (W : World) => park_best (some ⟨W.heap.size, 0, none⟩) 4 4 _ 2 [1, 0, 0, 1] 2 (W.alloc (.cells #[.int .i64 1, .int .i64 0, .int .i64 0, .int .i64 1] 3)) (Rd.new W 3 (xs := [.int .i64 1, .int .i64 0, .int .i64 0, .int .i64 1]) rfl) (by simp) rfl hok (by omega) (by decide)
  unfold Best.Post at hC
  simp only [e1, e2, e3] at hC
  have HC := hide hC
  clear hok e1 e2 e3 hC
  go_enter Try.func32, Try.ntmps32
  go_wp2_with fail
  refine (HC.out _).mono ?_; rintro e w1 ⟨v, rfl, hown, hb1⟩
  obtain ⟨A, c, rfl, hc, hrd⟩ : ∃ (A : Option Addr) (c : Nat), v = .slice A 2 c ∧ 2 ≤ c ∧ Rd w1 w1.heap.size 1 A 2 ([(0 : Int), 3].map (Value.int .i64)) := hown.ints
  have HRD := hide hrd
  have hb := then_ (show Below w.heap.size w _ from by go_grown) hb1 (Nat.le_refl _)
  have hz := hb1.size
  clear hown hrd hb1
  have HN := hide (show Rd (w1.alloc (.cells #[.int .i64 0, .int .i64 3] 3)) (w1.heap.size + 1) 1 (some ⟨w1.heap.size, 0, none⟩) 2 ([(0 : Int), 3].map (Value.int .i64)) from Rd.new (sz := 1) (n := 2) w1 3 (xs := [.int .i64 0, .int .i64 3]) rfl)
  go_wp2_with fail
  ((with_reducible refine (eqInt _ _ _ _ _ _ w1.heap.size _ [0, 3] [0, 3] _ (HRD.out.alloc (Nat.le_refl _) _) HN.out (by simp) (by omega)).mono ?_); rintro e w2 ⟨rfl, m, rfl⟩)
  simp only [decide_true]
  go_wp2_with fail
  go_ret
  exact ⟨rfl, below_drewN (hb.alloc (by simp at hz; omega) _) _⟩
end Go.Proofs.Ytalecppofemcnaa
