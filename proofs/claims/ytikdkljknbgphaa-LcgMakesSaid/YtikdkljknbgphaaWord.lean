/-
  The walks of lcg.Word and of the law's own word: both say what a state says.
-/
import Derived.Test.YtikdkljknbgphaaLcg
import Derived.Test.YtikdkljknbgphaaWordPlain
namespace Go.Proofs.Ytikdkljknbgphaa
open Go.RowKit LcgP HB WordP

def Word.mix (s : Int) : Int := bits BinOp.xor IntKind.u64 (s / 262144) s
theorem Word.mix_range (s : Int) : 0 ≤ bits BinOp.xor IntKind.u64 (s / 262144) s ∧ bits BinOp.xor IntKind.u64 (s / 262144) s ≤ 18446744073709551615 := bounds_u64 (wf_bits _ _ _ _)
/-- What a state says. -/
def Word.of (s : Int) : Int := (turns (s / 576460752303423488).toNat (Word.mix s / 134217728 % 4294967296).toNat : Int)
theorem Word.of_range (s : Int) : 0 ≤ Word.of s ∧ Word.of s ≤ 4294967295 := by
  have h := turns_lt (s / 576460752303423488).toNat (Word.mix s / 134217728 % 4294967296).toNat (by omega)
  unfold Word.of; omega
theorem Word.back (k : Int) (h0 : 0 ≤ k) (h1 : k ≤ 31) : bits BinOp.and IntKind.u64 (IntKind.u64.wrap (-k)) 31 = -k % 32 := by
  have h2 : IntKind.u64.wrap (-k) = ((18446744073709551616 - k) % 18446744073709551616) := by rw [IntKind.wrap_u64]; omega
  rw [h2, u64_and _ _ (by omega) (by omega) (by omega) (by omega)]
  rw [show (31 : Int).toNat = 2 ^ 5 - 1 from rfl, Nat.and_two_pow_sub_one_eq_mod]
  omega
theorem Word.close (x k : Int) (h0 : 0 ≤ k) (h1 : k ≤ 31) (hx : 0 ≤ x) (hx1 : x < 4294967296) :
    bits BinOp.or IntKind.u32 (x / 2 ^ k.toNat) (x * 2 ^ (-k % 32).toNat % 4294967296) = (turns k.toNat x.toNat : Int) := by
  obtain ⟨n, rfl⟩ := Int.eq_ofNat_of_zero_le hx
  obtain ⟨m, rfl⟩ := Int.eq_ofNat_of_zero_le h0
  have e1 : ((n : Int) / 2 ^ (m : Int).toNat) = ((n / 2 ^ m : Nat) : Int) := by simp
  have e2 : (n : Int) * 2 ^ (-(m : Int) % 32).toNat % 4294967296 = ((n * 2 ^ ((32 - m) % 32) % 4294967296 : Nat) : Int) := by
    rw [show (-(m : Int) % 32).toNat = (32 - m) % 32 from by omega]; simp
  have hlt : n / 2 ^ m < 4294967296 := Nat.lt_of_le_of_lt (Nat.div_le_self _ _) (by omega)
  rw [e1, e2, u32_or_nat _ _ hlt (Nat.mod_lt _ (by omega)), turns_or m n (by omega) (by omega)]
  simp

set_option maxHeartbeats 400000 in
theorem lcg_word (s : Int) (hs : 0 ≤ s) (hs1 : s < M) (w : World) :
    Calls Try.prog 27 #[.int .u64 s] w fun e w' => e = .returned (.int .u32 (Word.of s)) ∧ w = w' := by
  have hs2 : s ≤ 18446744073709551615 := by unfold M at hs1; omega
  have hX := Word.mix_range s
  have hb := Word.back (s / 576460752303423488) (by omega) (by omega)
  have hc := hide (Word.close (bits BinOp.xor IntKind.u64 (s / 262144) s / 134217728 % 4294967296) (s / 576460752303423488) (by omega) (by omega) (by omega) (by omega))
  go_enter Try.func27, Try.ntmps27
  go_wp2_with fail
  go_ret
  exact ⟨ret_int hc.out, rfl⟩

def Word.Rel (s : Int) (x i : Value) : Prop := ∃ k : Nat, (k : Int) ≤ s / 576460752303423488 ∧ i = .int .u64 k ∧ x = .int .u32 (turns k (Word.mix s / 134217728 % 4294967296).toNat)
set_option maxHeartbeats 400000 in
theorem word_law (s : Int) (hs : 0 ≤ s) (hs1 : s < M) (w : World) :
    Calls Try.prog 24 #[.int .u64 s] w fun e w' => e = .returned (.int .u32 (Word.of s)) ∧ w = w' := by
  have hs2 : s ≤ 18446744073709551615 := by unfold M at hs1; omega
  obtain ⟨hX, hX1⟩ := Word.mix_range s
  go_enter Try.func24, Try.ntmps24
  go_wp2_with fail
  go_loop [3, 4] (fun x i => Word.Rel s x i) (fun _ i => (s - intOf i).toNat)
  case atStart => exact ⟨0, by omega, rfl, by
    show Value.int .u32 _ = Value.int .u32 ((Word.mix s / 134217728 % 4294967296).toNat : Int)
    unfold Word.mix
    congr 1⟩
  case round =>
    obtain ⟨k, hk, rfl, rfl⟩ := hrel
    have h1 := turns_lt k (Word.mix s / 134217728 % 4294967296).toNat (by omega)
    generalize hy : turns k (Word.mix s / 134217728 % 4294967296).toNat = y at *
    have Hy := hide hy
    clear hy
    by_cases hlt : (k : Int) < s / 576460752303423488
    · go_wp2_with fail
      go_round
      case rel =>
        refine ⟨k + 1, by omega, by go_num, ?_⟩
        show Value.int .u32 _ = Value.int .u32 ((turn (turns k (Word.mix s / 134217728 % 4294967296).toNat) : Nat) : Int)
        rw [Hy.out]; unfold turn
        congr 1
      case measure => simp [intOf]; omega
    · have hge : s / 576460752303423488 ≤ k := by omega
      have hf : (y : Int) = Word.of s := by
        unfold Word.of
        rw [show (s / 576460752303423488).toNat = k from by omega, Hy.out]
      have Hf := hide hf
      clear hf
      go_wp2_with fail
      go_ret
      rw [← Hf.out]
      exact ⟨rfl, rfl⟩
end Go.Proofs.Ytikdkljknbgphaa
