/-
  The walk of words.Scale (for a seat without package pick).
-/
import Derived.Test.YtalecppofemcnaaProg
import Derived.Test.YtalecppofemcnaaBase
import Derived.Test.YtalecppofemcnaaPickPlain
namespace Go.Proofs.Ytalecppofemcnaa
open Go.RowKit HB PickP

theorem words_scale (x b : Int) (h0 : 0 ≤ x) (h1 : x ≤ 4294967295) (h2 : 0 ≤ b) (h3 : b ≤ 4294967295) (w : World) :
    Calls Try.prog 52 #[.int .u32 x, .int .u32 b] w fun e w' => e = .returned (.int .u32 (num x b)) ∧ w = w' := by
  obtain ⟨m0, m1⟩ := mul_range h0 h1 h2 h3
  have e : x * b / 4294967296 % 4294967296 = num x b := by unfold num; omega
  have E := hide e
  clear e
  go_enter Try.func52, Try.ntmps52
  go_wp2_with fail
  go_ret
  exact ⟨ret_int (by first | exact E.out | (rw [← E.out]; omega)), rfl⟩
end Go.Proofs.Ytalecppofemcnaa
