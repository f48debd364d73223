/-
  Numbers as bytes, plainly: the bytes of a number, the number of bytes, signs folded.
-/
import Derived.Test.YtknmpfimnbenjaaBase
import Derived.Laws.BitsAllLaws
import Derived.Laws.Bits
namespace Go.Proofs.Ytknmpfimnbenjaa.PackP
open Go.RowKit
set_option linter.unusedVariables false
set_option linter.unusedSimpArgs false
/-- a number's bytes -/
def put (n : Nat) : List Int := if n < 128 then [(n : Int)] else ((128 + n % 128 : Nat) : Int) :: put (n / 128)
termination_by n
decreasing_by omega
theorem put_small {n : Nat} (h : n < 128) : put n = [(n : Int)] := by rw [put, if_pos h]
theorem put_big {n : Nat} (h : ¬ n < 128) : put n = ((128 + n % 128 : Nat) : Int) :: put (n / 128) := by rw [put, if_neg h]
theorem put_pos (n : Nat) : 0 < (put n).length := by
  by_cases h : n < 128
  · rw [put_small h]; simp
  · rw [put_big h]; simp
theorem put_len : ∀ (k n : Nat), n < 128 ^ (k + 1) → (put n).length ≤ k + 1
  | 0, n, h => by rw [put_small (by simpa using h)]; simp
  | k + 1, n, h => by
    by_cases hs : n < 128
    · rw [put_small hs]; simp
    · rw [put_big hs, List.length_cons]
      have := put_len k (n / 128) (Nat.div_lt_of_lt_mul (by rw [Nat.pow_succ] at h; omega))
      omega
theorem put_ten {n : Nat} (h : n < 18446744073709551616) : (put n).length ≤ 10 := put_len 9 n (Nat.lt_of_lt_of_le h (by decide))
theorem put_in : ∀ n : Nat, ∀ x ∈ put n, 0 ≤ x ∧ x < 256 := by
  intro n
  induction n using Nat.strongRecOn with
  | ind n ih =>
    intro x hx
    by_cases hs : n < 128
    · rw [put_small hs] at hx; simp at hx; omega
    · rw [put_big hs] at hx
      rcases List.mem_cons.1 hx with rfl | hx
      · omega
      · exact ih _ (by omega) x hx
/-- the sign folded in -/
def fold (n : Int) : Nat := if 0 ≤ n then (2 * n).toNat else (-(2 * n) - 1).toNat
def unfold (u : Nat) : Int := if u % 2 = 0 then ((u / 2 : Nat) : Int) else -((u / 2 : Nat) : Int) - 1
theorem unfold_fold (n : Int) : unfold (fold n) = n := by
  unfold unfold fold
  split <;> split <;> omega
theorem fold_lt {n : Int} (h0 : -9223372036854775808 ≤ n) (h1 : n ≤ 9223372036854775807) : fold n < 18446744073709551616 := by
  unfold fold
  split <;> omega
theorem unfold_in {u : Nat} (h : u < 18446744073709551616) : -9223372036854775808 ≤ unfold u ∧ unfold u ≤ 9223372036854775807 := by
  unfold unfold
  split <;> omega
/-! the operations on bits -/
theorem or128_all : ∀ f : Fin 256, f.val ||| 128 = 128 + f.val % 128 := by decide +kernel
theorem or128 (n : Nat) : bits .or .u8 (IntKind.u8.wrap (n : Int)) 128 = ((128 + n % 128 : Nat) : Int) := by
  rw [IntKind.wrap_u8']
  have e : (n : Int) % 256 = ((n % 256 : Nat) : Int) := by omega
  rw [e]
  have h := u8_or_nat (n % 256) 128 (by omega) (by omega)
  have h2 := or128_all ⟨n % 256, by omega⟩
  simp only at h2
  rw [show ((128 : Nat) : Int) = 128 from rfl] at h
  rw [h, h2]
  omega
theorem xor_ones (x k : Nat) (h : x < 2 ^ k) : x ^^^ (2 ^ k - 1) = 2 ^ k - 1 - x := by
  apply Nat.eq_of_testBit_eq
  intro i
  rw [Nat.testBit_xor, Nat.testBit_two_pow_sub_one]
  have := Nat.testBit_two_pow_sub_succ h i
  rw [show 2 ^ k - 1 - x = 2 ^ k - (x + 1) by omega, this]
  by_cases hi : i < k
  · simp [hi]
  · have : x.testBit i = false := Nat.testBit_lt_two_pow (Nat.lt_of_lt_of_le h (Nat.pow_le_pow_right (by omega) (by omega)))
    simp [hi, this]
theorem fold_bits {n : Int} (h0 : -9223372036854775808 ≤ n) (h1 : n ≤ 9223372036854775807) : bits .xor .u64 (IntKind.u64.wrap (IntKind.u64.wrap n * 2)) (IntKind.u64.wrap (n / 9223372036854775808)) = (fold n : Int) := by
  simp only [IntKind.wrap_u64]
  unfold fold
  split
  · rename_i h
    have e1 : n % 18446744073709551616 * 2 % 18446744073709551616 = ((2 * n).toNat : Int) := by omega
    have e2 : n / 9223372036854775808 % 18446744073709551616 = ((0 : Nat) : Int) := by omega
    rw [e1, e2, u64_xor_nat _ _ (by omega) (by omega), Nat.xor_zero]
  · rename_i h
    have e1 : n % 18446744073709551616 * 2 % 18446744073709551616 = ((18446744073709551616 + 2 * n).toNat : Int) := by omega
    have e2 : n / 9223372036854775808 % 18446744073709551616 = ((2 ^ 64 - 1 : Nat) : Int) := by
      have : n / 9223372036854775808 = -1 := by omega
      rw [this]; decide
    rw [e1, e2, u64_xor_nat _ _ (by omega) (by omega), xor_ones _ _ (by omega)]
    omega
theorem xor_i64_0 (x : Nat) (h : x < 9223372036854775808) : bits .xor .i64 (x : Int) 0 = (x : Int) := by
  have e : BitVec.ofInt 64 (x : Int) ^^^ BitVec.ofInt 64 0 = BitVec.ofNat 64 x := by
    rw [show BitVec.ofInt 64 0 = 0#64 from rfl, BitVec.xor_zero, BitVec.ofInt_natCast]
  show IntKind.i64.wrap ((BitVec.ofInt 64 (x : Int) ^^^ BitVec.ofInt 64 0).toNat : Nat) = (x : Int)
  rw [e, BitVec.toNat_ofNat, Nat.mod_eq_of_lt (by omega), IntKind.wrap_i64]
  omega
theorem xor_i64_m1 (x : Nat) (h : x < 9223372036854775808) : bits .xor .i64 (x : Int) (-1) = -(x : Int) - 1 := by
  have e : BitVec.ofInt 64 (x : Int) ^^^ BitVec.ofInt 64 (-1) = ~~~ (BitVec.ofNat 64 x) := by
    rw [show BitVec.ofInt 64 (-1) = BitVec.allOnes 64 from by decide, BitVec.xor_allOnes, BitVec.ofInt_natCast]
  show IntKind.i64.wrap ((BitVec.ofInt 64 (x : Int) ^^^ BitVec.ofInt 64 (-1)).toNat : Nat) = -(x : Int) - 1
  rw [e, BitVec.toNat_not, BitVec.toNat_ofNat, Nat.mod_eq_of_lt (by omega), IntKind.wrap_i64]
  omega
theorem unfold_bits {u : Nat} (h : u < 18446744073709551616) : bits .xor .i64 (IntKind.i64.wrap ((u : Int) / 2)) (IntKind.i64.wrap (-(IntKind.i64.wrap (bits .and .u64 (u : Int) 1)))) = unfold u := by
  have h1 : bits .and .u64 (u : Int) 1 = ((u % 2 : Nat) : Int) := by
    have := u64_and_nat u 1 h (by omega)
    rw [nat_mask1] at this
    exact this
  have h2 : IntKind.i64.wrap ((u : Int) / 2) = ((u / 2 : Nat) : Int) := by rw [IntKind.wrap_i64]; omega
  rw [h1, h2]
  unfold unfold
  split
  · rename_i h3
    rw [h3]
    exact xor_i64_0 _ (by omega)
  · rename_i h3
    rw [show u % 2 = 1 by omega]
    exact xor_i64_m1 _ (by omega)
/-! reading -/
/-- the number that bytes begin with, from the i-th byte on, n what the bytes ahead say; and how many bytes it takes -/
def scan : Nat → Nat → List Int → Option (Nat × Nat)
  | i, n, [] => none
  | i, n, c :: t => if (i = 9 ∧ 1 < c) ∨ (0 < i ∧ c = 0) then none else if c < 128 then some (n + c.toNat * 2 ^ (7 * i), i + 1) else scan (i + 1) (n + c.toNat % 128 * 2 ^ (7 * i)) t
theorem scan_put : ∀ (v : Nat) (i n : Nat) (t : List Int), i ≤ 9 → v < 2 ^ (64 - 7 * i) → (0 < i → 0 < v) → scan i n (put v ++ t) = some (n + v * 2 ^ (7 * i), i + (put v).length) := by
  intro v
  induction v using Nat.strongRecOn with
  | ind v ih =>
    intro i n t hi hv h0
    have h9 : i = 9 → v < 2 := fun h => by subst h; simpa using hv
    by_cases hs : v < 128
    · rw [put_small hs]
      simp only [List.cons_append, List.nil_append, scan]
      rw [if_neg (by omega), if_pos (by omega)]
      simp
    · rw [put_big hs]
      simp only [List.cons_append, scan]
      rw [if_neg (by omega), if_neg (by omega)]
      have hi8 : i ≤ 8 := by omega
      have e : 64 - 7 * i = (64 - 7 * (i + 1)) + 7 := by omega
      rw [ih (v / 128) (by omega) (i + 1) _ t (by omega) (Nat.div_lt_of_lt_mul (by rw [e, Nat.pow_add] at hv; omega)) (fun _ => by omega)]
      rw [show 7 * (i + 1) = 7 * i + 7 by omega, Nat.pow_add, List.length_cons]
      have e2 : ((128 + v % 128 : Nat) : Int).toNat % 128 = v % 128 := by omega
      rw [e2]
      have e3 : v % 128 * 2 ^ (7 * i) + v / 128 * (2 ^ (7 * i) * 2 ^ 7) = v * 2 ^ (7 * i) := by
        rw [Nat.mul_comm (2 ^ (7 * i)) (2 ^ 7), ← Nat.mul_assoc, ← Nat.add_mul]
        congr 1; omega
      rw [Nat.add_assoc, e3, show i + 1 + (put (v / 128)).length = i + ((put (v / 128)).length + 1) by omega]
theorem scan_is : ∀ (b : List Int) (i n v' k : Nat), (∀ x ∈ b, 0 ≤ x ∧ x < 256) → i ≤ 9 → scan i n b = some (v', k) → ∃ v t, b = put v ++ t ∧ k = i + (put v).length ∧ v' = n + v * 2 ^ (7 * i) ∧ v < 2 ^ (64 - 7 * i) ∧ (0 < i → 0 < v)
  | [], i, n, v', k, _, _, h => by simp [scan] at h
  | c :: b, i, n, v', k, hb, hi, h => by
    have hc := hb c (List.mem_cons_self ..)
    simp only [scan] at h
    split at h
    · cases h
    · rename_i h1
      split at h
      · rename_i h2
        simp only [Option.some.injEq, Prod.mk.injEq] at h
        obtain ⟨rfl, rfl⟩ := h
        refine ⟨c.toNat, b, ?_, ?_, rfl, ?_, fun h => by omega⟩
        · rw [put_small (by omega)]
          simp; omega
        · rw [put_small (by omega)]; simp
        · rcases Nat.lt_or_ge i 9 with h9 | h9
          · have : 2 ^ 8 ≤ 2 ^ (64 - 7 * i) := Nat.pow_le_pow_right (by omega) (by omega)
            omega
          · obtain rfl : i = 9 := by omega
            have : c.toNat < 2 := by omega
            simpa using this
      · rename_i h2
        have h9 : i ≤ 8 := by omega
        obtain ⟨v, t, h3, h4, h5, h6, h7⟩ := scan_is b (i + 1) _ v' k (fun x hx => hb x (List.mem_cons_of_mem _ hx)) (by omega) h
        have h8 := h7 (by omega)
        have hbig : ¬ (c.toNat % 128 + 128 * v) < 128 := by omega
        refine ⟨c.toNat % 128 + 128 * v, t, ?_, ?_, ?_, ?_, fun _ => by omega⟩
        · rw [put_big hbig, h3]
          rw [show (c.toNat % 128 + 128 * v) / 128 = v by omega, show (((128 + (c.toNat % 128 + 128 * v) % 128 : Nat)) : Int) = c by omega]
          rfl
        · rw [put_big hbig, show (c.toNat % 128 + 128 * v) / 128 = v by omega, List.length_cons, h4]
          omega
        · rw [h5, show 7 * (i + 1) = 7 * i + 7 by omega, Nat.pow_add, Nat.mul_comm (2 ^ (7 * i)) (2 ^ 7), ← Nat.mul_assoc, Nat.add_assoc, ← Nat.add_mul]
          congr 2
          omega
        · have e : 64 - 7 * i = (64 - 7 * (i + 1)) + 7 := by omega
          rw [e, Nat.pow_add]
          omega
/-- the number that bytes begin with, and how many bytes it takes -/
def num (b : List Int) : Option (Nat × Nat) := scan 0 0 b
theorem num_put {v : Nat} (h : v < 18446744073709551616) (t : List Int) : num (put v ++ t) = some (v, (put v).length) := by
  have := scan_put v 0 0 t (by omega) h (by omega)
  simpa [num] using this
theorem num_is {b : List Int} (hb : ∀ x ∈ b, 0 ≤ x ∧ x < 256) {v k : Nat} (h : num b = some (v, k)) : v < 18446744073709551616 ∧ k = (put v).length ∧ ∃ t, b = put v ++ t := by
  obtain ⟨v', t, h1, h2, h3, h4, _⟩ := scan_is b 0 0 v k hb (by omega) h
  simp at h2 h3 h4
  subst h3
  exact ⟨h4, h2, t, h1⟩
end Go.Proofs.Ytknmpfimnbenjaa.PackP
