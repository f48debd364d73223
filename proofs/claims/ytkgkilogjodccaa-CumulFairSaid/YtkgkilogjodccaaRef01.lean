/-
  The walks of the document's Times and Over, as the table of a rate uses them.
-/
import Derived.Test.YtkgkilogjodccaaProg
import Derived.Test.YtkgkilogjodccaaBase
import Derived.Test.YtkgkilogjodccaaCumPlain
namespace Go.Proofs.Ytkgkilogjodccaa
open Go.RowKit HB CumP
set_option linter.unusedVariables false
set_option linter.unusedSimpArgs false

set_option maxHeartbeats 1000000 in
theorem ref_times (x : Int) (h0 : 0 ≤ x) (h1 : x ≤ 4294967295) (w : World) :
    Calls Try.prog 59 #[.int .u64 x, .int .u64 4294967296] w fun e w' => e = .returned (.tuple #[.int .u64 0, .int .u64 (x * 4294967296)]) ∧ w = w' := by
  have e0 : x / 4294967296 = 0 := by omega
  have e1 : x % 4294967296 = x := by omega
  go_enter Try.func59, Try.ntmps59
  go_wp2_with fail
  go_ret2
  exact ⟨rfl, rfl⟩

theorem Over.q_le {q r c t T : Int} (hc : 0 < c) (hr : 0 ≤ r) (h : q * c + r = t) (ht : t ≤ T) (hT : T ≤ 8589934592 * c) : q ≤ 8589934592 :=
  Int.le_of_mul_le_mul_right (show q * c ≤ 8589934592 * c by omega) hc
def Over.Rel (hi lo c : Int) (q r i : Value) : Prop := ∃ (m : Nat) (q' r' : Int), m ≤ 64 ∧ i = .int .i64 ((m : Int) - 1) ∧ q = .int .u64 q' ∧ r = .int .u64 r' ∧ 0 ≤ q' ∧ 0 ≤ r' ∧ r' < c ∧ q' * c + r' = top hi lo m

set_option maxRecDepth 100000 in
set_option maxHeartbeats 2000000 in
theorem ref_over (hi lo c : Int) (h0 : 0 ≤ hi) (hl0 : 0 ≤ lo) (hl1 : lo ≤ 18446744073709551615) (hc : hi < c) (hc1 : c ≤ 4294967296) (hT : hi * 18446744073709551616 + lo ≤ 8589934592 * c) (w : World) :
    Calls Try.prog 60 #[.int .u64 hi, .int .u64 lo, .int .u64 c] w fun e w' => (∃ r, e = .returned (.tuple #[.int .u64 ((hi * 18446744073709551616 + lo) / c), .int .u64 r])) ∧ w = w' := by
  have HT := hide hT
  clear hT
  go_enter Try.func60, Try.ntmps60
  go_wp2_with fail
  go_loop [8, 9, 10] (fun q r i => Over.Rel hi lo c q r i) (fun _ _ i => (intOf i + 1).toNat)
  case atStart =>
    refine ⟨64, 0, hi, by omega, rfl, rfl, rfl, by omega, h0, hc, ?_⟩
    unfold top
    rw [show (2 : Int) ^ 64 = 18446744073709551616 by decide]; omega
  case round =>
    obtain ⟨m, q, r, hm, rfl, rfl, rfl, q0, r0, rc, he⟩ := hrel
    have hq : q ≤ 8589934592 := Over.q_le (by omega) r0 he (Int.ediv_le_self _ (by omega)) HT.out
    rcases m with _ | m
    · have hres : q = (hi * 18446744073709551616 + lo) / c := by
        have : top hi lo 0 = hi * 18446744073709551616 + lo := by unfold top; simp
        rw [this] at he
        rw [← he, Int.add_comm, Int.add_mul_ediv_right _ _ (by omega), Int.ediv_eq_zero_of_lt r0 rc]; omega
      have HR := hide hres
      clear he hres
      go_wp2_with fail
      go_ret2
      exact ⟨⟨r, by rw [HR.out]; rfl⟩, rfl⟩
    · have hn := top_next (hi := hi) (lo := lo) (m := m) (by omega)
      rw [← he] at hn
      have HN := hide hn
      clear he hn
      have hX0 : 0 ≤ lo / 2 ^ m := Int.ediv_nonneg hl0 (Int.le_of_lt (Int.pow_pos (by decide)))
      obtain ⟨b, hb⟩ : ∃ b, (lo / 2 ^ m).tmod 2 = b := ⟨_, rfl⟩
      have hbb : lo / 2 ^ m % 2 = b := by rw [← hb, Int.tmod_eq_emod_of_nonneg hX0]
      have hb0 : 0 ≤ b := by omega
      have hb1 : b ≤ 1 := by omega
      rw [hbb] at HN
      have hw : IntKind.u64.wrap (2 * r + (lo / 2 ^ m).tmod 2) = 2 * r + b := by rw [hb, IntKind.wrap_u64]; omega
      clear hbb hX0
      have tp : decide ((9223372036854775808 : Int) ≤ r) = false := by simp; omega
      have e1 : 2 * (q * c + r) + b = (2 * q) * c + (2 * r + b) := by rw [Int.mul_assoc]; omega
      have e2 : 2 * (q * c + r) + b = (2 * q + 1) * c + (2 * r + b - c) := by rw [Int.add_mul, Int.mul_assoc]; omega
      have E1 := hide e1
      have E2 := hide e2
      clear e1 e2
      by_cases hge : c ≤ 2 * r + b
      · go_wp2_with fail
        go_round
        case rel => exact ⟨m, 2 * q + 1, 2 * r + b - c, by omega, by go_num, by go_num, by go_num, by omega, by omega, by omega, by rw [HN.out, E2.out]⟩
        case measure => simp [intOf]
      · go_wp2_with fail
        go_round
        case rel => exact ⟨m, 2 * q, 2 * r + b, by omega, by go_num, by go_num, by go_num, by omega, by omega, by omega, by rw [HN.out, E1.out]⟩
        case measure => simp [intOf]
end Go.Proofs.Ytkgkilogjodccaa
