/-
  The walk of the law's own example for package shuffle.
-/
import Derived.Test.YtalecppofemcnaaOrder
import Derived.Test.YtalecppofemcnaaEqInt
namespace Go.Proofs.Ytalecppofemcnaa
open Go.RowKit HB PickP ShufP
set_option linter.unusedVariables false
set_option linter.unusedSimpArgs false
set_option maxRecDepth 100000 in
set_option maxHeartbeats 2000000 in
theorem shuf_alive (w : World) : Calls Try.prog 14 #[] w fun e w' => e = .returned (.bool true) ∧ Below w.heap.size w w' := by
  have hw : ∀ x ∈ [(7 : Int)], (Lit.int .u32 x).wf = true := by decide
  have Hw := hide hw
  clear hw
  go_enter Try.func14, Try.ntmps14
  go_wp2_with fail
  refine (order_any _ 1 1 2 0 [7] _ ((Rd.new w 63 (xs := [.int .u32 7]) rfl).mono (by simp)) rfl Hw.out (by omega) (by omega)).mono ?_; rintro e w1 ⟨hb1, ⟨_, h, _⟩ | ⟨_, v, rfl, hown⟩⟩
  · exfalso; omega
  · have e1 : ord [7] (0 : Int).toNat 2 (2 - 1) = [1, 0] := by decide
    rw [e1] at hown
    obtain ⟨A, c, rfl, hc, hrd⟩ : ∃ (A : Option Addr) (c : Nat), v = .slice A 2 c ∧ 2 ≤ c ∧ Rd w1 w1.heap.size 1 A 2 ([(1 : Int), 0].map (Value.int .i64)) := hown.ints
    have HRD := hide hrd
    have hb := then_ (show Below w.heap.size w _ from by go_grown) hb1 (Nat.le_refl _)
    have hz := hb1.size
    clear hown hrd e1 hb1
    have HN := hide (show ∀ o, Rd ((w1.alloc o).alloc (.cells #[.int .i64 1, .int .i64 0] 3)) (w1.heap.size + 1 + 1) 1 (some ⟨w1.heap.size + 1, 0, none⟩) 2 ([(1 : Int), 0].map (Value.int .i64)) from fun o => by
      have := Rd.new (sz := 1) (n := 2) (w1.alloc o) 3 (xs := [.int .i64 1, .int .i64 0]) rfl
      rw [World.size_alloc] at this
      exact this)
    go_wp2_with fail
    ((with_reducible refine (eqInt _ _ _ _ _ _ w1.heap.size _ [1, 0] [1, 0] _ ((HRD.out.alloc (Nat.le_refl _) _).alloc (by simp) _) (HN.out _) (by simp) (by omega)).mono ?_); rintro e w2 ⟨rfl, m, rfl⟩)
    simp only [decide_true]
    go_wp2_with fail
    go_ret
    exact ⟨rfl, below_drewN ((hb.alloc (by simp at hz; omega) _).alloc (by simp at hz ⊢; omega) _) _⟩
end Go.Proofs.Ytalecppofemcnaa
