/-
  The walks of the law's own helpers over streams: left, same, alive.
-/
import Derived.Test.YtikdkljknbgphaaWords
namespace Go.Proofs.Ytikdkljknbgphaa
open Go.RowKit HB PickP

theorem left_law (A : Option Addr) (n c : Nat) (at_ : Int) (hn : n ≤ 1000000000) (w : World) :
    Calls Try.prog 49 #[Words.st A n c at_] w fun e w' => e = .returned (.int .i64 (Words.left at_ n)) ∧ Below w.heap.size w w' := by
  by_cases h0 : at_ < 0
  · go_enter Try.func49, Try.ntmps49
    go_wp2_with fail
    go_ret
    exact ⟨ret_int (by unfold Words.left; rw [if_pos (.inl h0)]), by go_grown⟩
  · by_cases h1 : (n : Int) < at_
    · go_enter Try.func49, Try.ntmps49
      go_wp2_with fail
      go_ret
      exact ⟨ret_int (by unfold Words.left; rw [if_pos (.inr h1)]), by go_grown⟩
    · go_enter Try.func49, Try.ntmps49
      go_wp2_with fail
      go_ret
      exact ⟨ret_int (by unfold Words.left; rw [if_neg (by omega)]), by go_grown⟩

theorem same_law (A : Option Addr) (n c B : Nat) (at_ : Int) (ws : List Int) (hn : n ≤ 1000000000) (w : World) (hr : Rd w B 1 A n (ws.map (Value.int .u32))) (hB : B ≤ w.heap.size) :
    Calls Try.prog 47 #[Words.st A n c at_, Words.st A n c at_] w fun e w' => e = .returned (.bool true) ∧ Below w.heap.size w w' := by
  have HR := hide ((hr.alloc hB (Words.box A n c at_)).alloc (by simp; omega) (Words.box A n c at_))
  go_enter Try.func47, Try.ntmps47
  go_wp2_with (go_at_call 25; refine (eqU32 _ _ _ _ _ _ B B ws ws _ HR.out HR.out hn hn).mono ?_; rintro e w2 ⟨rfl, m, rfl⟩; simp only [decide_true])
  go_ret
  exact ⟨rfl, below_drewN (by go_grown) _⟩

theorem words_least_five (w : World) : Calls Try.prog 60 #[.int .u32 5, .int .u32 10] w fun e w' => e = .returned (.tuple #[.int .u32 2147483648, .int .i64 0]) ∧ w = w' := by
  go_enter Try.func60, Try.ntmps60
  go_wp2_with fail
  go_ret2
  exact ⟨rfl, rfl⟩
theorem words_alive (w : World) : Calls Try.prog 48 #[] w fun e w' => e = .returned (.bool true) ∧ w = w' := by
  have e : num 2147483648 10 = 5 := by decide
  go_enter Try.func48, Try.ntmps48
  go_wp2_with (first
    | (go_at_call 60; refine (words_least_five _).mono ?_; rintro e w2 ⟨rfl, rfl⟩)
    | (go_at_call 59; refine (words_scale _ _ (by omega) (by omega) (by omega) (by omega) _).mono ?_; rintro e w2 ⟨rfl, rfl⟩))
  go_ret
  exact ⟨rfl, rfl⟩
end Go.Proofs.Ytikdkljknbgphaa
