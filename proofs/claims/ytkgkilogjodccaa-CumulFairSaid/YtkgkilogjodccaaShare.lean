/-
  The walk of cumul.Share.
-/
import Derived.Test.YtkgkilogjodccaaProg
import Derived.Test.YtkgkilogjodccaaBase
import Derived.IntWalk
import Derived.Deep.QuietTactic
import Derived.BigQuiet
namespace Go.Proofs.Ytkgkilogjodccaa
open Go.RowKit HB
set_option linter.unusedVariables false
set_option linter.unusedSimpArgs false

theorem cum_share_no (A : Option Addr) (n c : Nat) (i : Int) (w : World) (hi : i < 0 ∨ (n : Int) ≤ i) :
    Calls Try.prog 23 #[.slice A n c, .int .i64 i] w fun e w' => e = .returned (.int .u64 0) ∧ w = w' := by
  have hor : i < 0 ∨ (0 ≤ i ∧ (n : Int) ≤ i) := by omega
  clear hi
  go_enter Try.func23, Try.ntmps23
  rcases hor with h | ⟨h, h'⟩
  all_goals
    go_wp2_with fail
    go_ret
    exact ⟨rfl, rfl⟩

theorem cum_share_zero (A : Option Addr) (n c B : Nat) (l : List Int) (w : World) (hr : Rd w B 1 A n (l.map (Value.int .u64))) (hl : l.length = n) (hn : n ≤ 1000) (x : Int) (hx : l[0]? = some x) :
    Calls Try.prog 23 #[.slice A n c, .int .i64 0] w fun e w' => e = .returned (.int .u64 x) ∧ w = w' := by
  have hlt : 0 < n := by have := (List.getElem?_eq_some_iff.1 hx).1; omega
  obtain ⟨b, off, y, rfl, hb, hg, c0⟩ := hr.int_at hl hlt
  rw [hx] at hg
  obtain rfl := Option.some.inj hg
  rw [Nat.add_zero] at c0
  have d0 : decide ((n : Int) ≤ 0) = false := by simp; omega
  have d1 : decide (n ≤ 0) = false := by simp; omega
  have d2 : decide ((0 : Int) < (n : Int)) = true := by simp; omega
  clear hr hl hg hx
  go_enter Try.func23, Try.ntmps23
  go_wp2_with fail
  go_ret
  exact ⟨rfl, rfl⟩

set_option maxHeartbeats 1000000 in
theorem cum_share_next (A : Option Addr) (n c B : Nat) (l : List Int) (w : World) (hr : Rd w B 1 A n (l.map (Value.int .u64))) (hl : l.length = n) (hn : n ≤ 1000) (i : Nat) (h1 : 1 ≤ i) (x p v : Int) (hx : l[i]? = some x) (hp : l[i - 1]? = some p) (hv : IntKind.u64.wrap (x - p) = v) :
    Calls Try.prog 23 #[.slice A n c, .int .i64 i] w fun e w' => e = .returned (.int .u64 v) ∧ ∃ m, w' = w.drewN m := by
  have hlt : i < n := by have := (List.getElem?_eq_some_iff.1 hx).1; omega
  obtain ⟨b, off, y, rfl, hb, hg, c0⟩ := hr.int_at hl hlt
  rw [hx] at hg
  obtain rfl := Option.some.inj hg
  obtain ⟨b', off', z, hA, hb', hg', c1⟩ := hr.int_at hl (show i - 1 < n by omega)
  simp only [Option.some.injEq, Addr.mk.injEq, and_true] at hA
  obtain ⟨rfl, rfl⟩ := hA
  rw [hp] at hg'
  obtain rfl := Option.some.inj hg'
  have j0 : (0 : Int) ≤ (i : Int) := by omega
  have j1 : (i : Int) < (n : Int) := by omega
  have j2 : ((i : Int) == 0) = false := by rw [beq_eq_false_iff_ne]; omega
  have j3 : (i == 0) = false := by rw [beq_eq_false_iff_ne]; omega
  have i0 : (0 : Int) ≤ (i : Int) - 1 := by omega
  have i1 : (i : Int) - 1 < (n : Int) := by omega
  have i2 : ((i : Int) - 1).toNat = i - 1 := by omega
  have iw : IntKind.i64.wrap ((i : Int) - 1) = (i : Int) - 1 := IntWalk.i64_in _ (by omega)
  clear hr hl hg hg' hx hp
  go_enter Try.func23, Try.ntmps23
  go_wp2_with fail
  go_quiet (fail)
  clear iw
  go_wp2_with fail
  go_ret
  exact ⟨rfl, _, rfl⟩
end Go.Proofs.Ytkgkilogjodccaa
