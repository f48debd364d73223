/- The plain law of the turned words: k turns by one are one turn by k. -/
namespace Go.Proofs.Ytikdkljknbgphaa.WordP
/-- one turn to the right of a number of 32 bits -/
def turn (x : Nat) : Nat := x / 2 + x % 2 * 2147483648
def turns : Nat → Nat → Nat
  | 0, x => x
  | k + 1, x => turn (turns k x)
theorem turns_closed : ∀ (k x : Nat), k ≤ 31 → turns k x = x / 2 ^ k + (x % 2 ^ k) * 2 ^ (32 - k)
  | 0, x, _ => by simp [turns, Nat.mod_one]
  | k + 1, x, h => by
    have ih := turns_closed k x (by omega)
    have hp : 2 ^ (32 - k) = 2 * 2 ^ (31 - k) := by rw [show 32 - k = (31 - k) + 1 from by omega, Nat.pow_succ, Nat.mul_comm]
    have hq : 2 ^ k * 2 ^ (31 - k) = 2147483648 := by rw [← Nat.pow_add, show k + (31 - k) = 31 from by omega]
    have hm : x % 2 ^ (k + 1) = x % 2 ^ k + 2 ^ k * (x / 2 ^ k % 2) := by rw [Nat.pow_succ, Nat.mod_mul]
    have hd : x / 2 ^ (k + 1) = x / 2 ^ k / 2 := by rw [Nat.pow_succ, Nat.div_div_eq_div_mul]
    show turn (turns k x) = _
    rw [ih, hm, hd, hp, show 32 - (k + 1) = 31 - k from by omega]
    unfold turn
    generalize x / 2 ^ k = a
    generalize x % 2 ^ k = b
    generalize 2 ^ (31 - k) = p at *
    generalize 2 ^ k = q at *
    have e1 : b * (2 * p) = 2 * (b * p) := by rw [Nat.mul_left_comm]
    have e2 : (b + q * (a % 2)) * p = b * p + a % 2 * 2147483648 := by
      rw [Nat.add_mul, Nat.mul_right_comm, hq, Nat.mul_comm 2147483648]
    rw [e1, e2]
    omega
theorem turns_lt : ∀ (k x : Nat), x < 4294967296 → turns k x < 4294967296
  | 0, _, h => h
  | k + 1, x, h => by have := turns_lt k x h; show turn _ < _; unfold turn; omega
/-- 'x >> k | x << (-k & 31)' -/
theorem turns_or (k x : Nat) (hk : k ≤ 31) (hx : x < 4294967296) : (x / 2 ^ k ||| x * 2 ^ ((32 - k) % 32) % 4294967296) = turns k x := by
  rw [turns_closed k x hk]
  rcases Nat.eq_zero_or_pos k with h0 | h0
  · subst h0
    simp [Nat.mod_one, Nat.mod_eq_of_lt hx]
  · rw [Nat.mod_eq_of_lt (show 32 - k < 32 by omega)]
    have hq : 4294967296 = 2 ^ (32 - k) * 2 ^ k := by rw [← Nat.pow_add, show 32 - k + k = 32 from by omega]
    have e : x * 2 ^ (32 - k) % 4294967296 = 2 ^ (32 - k) * (x % 2 ^ k) := by
      rw [hq, Nat.mul_comm x, Nat.mul_mod_mul_left]
    have hlt : x / 2 ^ k < 2 ^ (32 - k) := by
      rw [Nat.div_lt_iff_lt_mul (Nat.two_pow_pos k), ← hq]; exact hx
    rw [e, Nat.or_comm, ← Nat.two_pow_add_eq_or_of_lt hlt, Nat.mul_comm (x % 2 ^ k), Nat.add_comm]
end Go.Proofs.Ytikdkljknbgphaa.WordP
