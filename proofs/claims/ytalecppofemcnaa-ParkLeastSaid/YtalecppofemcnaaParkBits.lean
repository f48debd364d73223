/-
  Parking, plainly: rows of floors by flrs, and the least of them.
-/
import Derived.Test.YtalecppofemcnaaParkLaw3
namespace Go.Proofs.Ytalecppofemcnaa.ParkP
set_option linter.unusedVariables false
set_option linter.unusedSimpArgs false
/-- the floors below n that the flrs of m name -/
def flrs (m : Nat) : Nat → List Int
  | 0 => []
  | n + 1 => if m / 2 ^ n % 2 = 1 then flrs m n ++ [(n : Int)] else flrs m n
theorem flrs_len (m : Nat) : ∀ n, (flrs m n).length ≤ n
  | 0 => by simp [flrs]
  | n + 1 => by
    have := flrs_len m n
    simp only [flrs]
    split <;> simp <;> omega
theorem flrs_in (m : Nat) : ∀ n, ∀ x ∈ flrs m n, 0 ≤ x ∧ x < (n : Int)
  | 0, x, h => by simp [flrs] at h
  | n + 1, x, h => by
    have ih := flrs_in m n
    simp only [flrs] at h
    split at h
    · rcases List.mem_append.1 h with h | h
      · have := ih x h; omega
      · simp at h; omega
    · have := ih x h; omega
theorem flrs_ne (m : Nat) : ∀ n, 1 ≤ m → m < 2 ^ n → flrs m n ≠ []
  | 0, h1, h2 => by simp at h2; omega
  | n + 1, h1, h2 => by
    simp only [flrs]
    split
    · simp
    · rename_i h
      rcases Nat.lt_or_ge m (2 ^ n) with h3 | h3
      · exact flrs_ne m n h1 h3
      · exfalso
        have e : m / 2 ^ n = 1 := by
          rw [Nat.pow_succ] at h2
          apply Nat.le_antisymm
          · have : m / 2 ^ n < 2 := Nat.div_lt_of_lt_mul (by omega)
            omega
          · exact (Nat.le_div_iff_mul_le (Nat.two_pow_pos n)).2 (by omega)
        rw [e] at h
        simp at h
theorem flrs_high (m j k : Nat) (h : j ≤ k) : flrs (m + 2 ^ k) j = flrs m j := by
  induction j with
  | zero => rfl
  | succ j ih =>
    have e : (m + 2 ^ k) / 2 ^ j % 2 = m / 2 ^ j % 2 := by
      obtain ⟨d, rfl⟩ : ∃ d, k = j + 1 + d := ⟨k - (j + 1), by omega⟩
      rw [show 2 ^ (j + 1 + d) = 2 ^ j * (2 * 2 ^ d) by rw [Nat.pow_add, Nat.pow_succ, Nat.mul_assoc], Nat.add_mul_div_left _ _ (Nat.two_pow_pos j), Nat.add_mul_mod_self_left]
    simp only [flrs, e, ih (by omega)]
/-- each row of floors that rise is named by flrs -/
theorem flrs_all : ∀ (n : Nat) (F : List Int), rises F → (∀ x ∈ F, 0 ≤ x ∧ x < (n : Int)) → ∃ m, m < 2 ^ n ∧ flrs m n = F
  | 0, F, _, h => by
    refine ⟨0, by simp, ?_⟩
    cases F with
    | nil => rfl
    | cons x F => have := h x (List.mem_cons_self ..); omega
  | n + 1, F, hr, h => by
    rcases List.eq_nil_or_concat F with rfl | ⟨G, y, hG⟩
    · obtain ⟨m, h1, h2⟩ := flrs_all n [] hr (by simp)
      refine ⟨m, by rw [Nat.pow_succ]; omega, ?_⟩
      simp only [flrs, h2]
      rw [Nat.div_eq_of_lt h1]; simp
    · rw [List.concat_eq_append] at hG
      subst hG
      unfold rises at hr
      rw [List.pairwise_append] at hr
      obtain ⟨r1, _, r2⟩ := hr
      have hy := h y (by simp)
      by_cases hyn : y = (n : Int)
      · subst hyn
        obtain ⟨m, h1, h2⟩ := flrs_all n G r1 (fun x hx => ⟨(h x (by simp [hx])).1, r2 x hx _ (by simp)⟩)
        refine ⟨m + 2 ^ n, by rw [Nat.pow_succ]; omega, ?_⟩
        have e : (m + 2 ^ n) / 2 ^ n % 2 = 1 := by
          have := Nat.add_mul_div_left m 1 (Nat.two_pow_pos n)
          rw [Nat.mul_one, Nat.div_eq_of_lt h1] at this
          rw [this]
        simp only [flrs, e, if_true]
        rw [flrs_high m n n (Nat.le_refl _), h2]
      · obtain ⟨m, h1, h2⟩ := flrs_all n (G ++ [y]) (by unfold rises; rw [List.pairwise_append]; exact ⟨r1, List.pairwise_singleton _ _, r2⟩) (fun x hx => by
          have hx' := h x hx
          rcases List.mem_append.1 hx with hx | hx
          · have := r2 x hx y (by simp); omega
          · simp at hx; omega)
        refine ⟨m, by rw [Nat.pow_succ]; omega, ?_⟩
        simp only [flrs, h2]
        rw [Nat.div_eq_of_lt h1]; simp
/-- the least of the rows that the numbers below m name -/
def bl (l : List Int) (k : Int) (n : Nat) : Nat → Int
  | 0 => -1
  | m + 1 => if m = 0 ∨ k < (flrs m n).length then bl l k n m else if bl l k n m < 0 ∨ cs l (flrs m n) n < bl l k n m then cs l (flrs m n) n else bl l k n m
theorem bl_is (l : List Int) (k : Int) (n : Nat) (hc : ∀ m, 1 ≤ m → m < 2 ^ n → 0 ≤ cs l (flrs m n) n) : ∀ M, M ≤ 2 ^ n →
    ((bl l k n M = -1) ∨ ∃ m, 1 ≤ m ∧ m < M ∧ ¬ k < (flrs m n).length ∧ bl l k n M = cs l (flrs m n) n) ∧
    (∀ m, 1 ≤ m → m < M → ¬ k < (flrs m n).length → 0 ≤ bl l k n M ∧ bl l k n M ≤ cs l (flrs m n) n)
  | 0, _ => ⟨.inl rfl, fun m h1 h2 => by omega⟩
  | M + 1, hM => by
    obtain ⟨i1, i2⟩ := bl_is l k n hc M (by omega)
    simp only [bl]
    split
    · rename_i h
      refine ⟨i1.imp_right (fun ⟨m, a, b, c, d⟩ => ⟨m, a, by omega, c, d⟩), fun m h1 h2 h3 => ?_⟩
      by_cases e : m = M
      · subst e; rcases h with h | h
        · omega
        · exact absurd h h3
      · exact i2 m h1 (by omega) h3
    · rename_i h
      have h0 := hc M (by omega) (by omega)
      have hk : ¬ k < (flrs M n).length := fun hh => h (.inr hh)
      split
      · rename_i h'
        refine ⟨.inr ⟨M, by omega, by omega, hk, rfl⟩, fun m h1 h2 h3 => ⟨h0, ?_⟩⟩
        by_cases e : m = M
        · subst e; exact Int.le_refl _
        · have := i2 m h1 (by omega) h3; omega
      · rename_i h'
        refine ⟨i1.imp_right (fun ⟨m, a, b, c, d⟩ => ⟨m, a, by omega, c, d⟩), fun m h1 h2 h3 => ?_⟩
        by_cases e : m = M
        · subst e; omega
        · exact i2 m h1 (by omega) h3
theorem bl_top {l : List Int} (hok : okP l = true) {n : Nat} (hn : l.length = n) {k : Int} {K : Nat} (hk : 1 ≤ k) (hK : K = min k.toNat n) :
    bl l k n (2 ^ n) = tc l (bst l n (K + 1)) n := by
  have h0 := (okP_yes hok).1
  obtain ⟨b1, b2, b3, b4, b5, b6⟩ := best_is hok (K := K) (by omega) (by omega)
  rw [hn] at b1 b2 b3 b4 b5 b6
  have hin : ∀ m, inR n (flrs m n) = true := fun m => by
    simp only [inR, List.all_eq_true, decide_eq_true_eq]; exact flrs_in m n
  have ht : 0 ≤ tc l (bst l n (K + 1)) n := by
    rw [← b5]
    rw [← hn] at b2 b3 ⊢
    obtain ⟨c, _, _, c1, c2⟩ := cs_least hok b3 b2
    omega
  have hle : ∀ m, 1 ≤ m → m < 2 ^ n → ¬ k < (flrs m n).length → tc l (bst l n (K + 1)) n ≤ cs l (flrs m n) n := fun m h1 h2 h3 => by
    have := flrs_len m n
    exact b6 _ (flrs_ne m n h1 h2) (by omega) (hin m)
  have hc : ∀ m, 1 ≤ m → m < 2 ^ n → 0 ≤ cs l (flrs m n) n := fun m h1 h2 => by
    have := flrs_ne m n h1 h2
    have hi := hin m
    rw [← hn] at this hi ⊢
    obtain ⟨c, _, _, c1, c2⟩ := cs_least hok hi this
    omega
  obtain ⟨m, m1, m2⟩ := flrs_all n _ b4 (by simpa [inR] using b3)
  have m0 : 1 ≤ m := by
    rcases Nat.eq_zero_or_pos m with rfl | h
    · exfalso
      rw [← m2] at b2
      have : ∀ j, flrs 0 j = [] := fun j => by induction j with
        | zero => rfl
        | succ j ih => simp [flrs, ih]
      exact b2 (this n)
    · exact h
  obtain ⟨i1, i2⟩ := bl_is l k n hc (2 ^ n) (Nat.le_refl _)
  have := i2 m m0 m1 (by rw [m2]; omega)
  rw [m2, b5] at this
  rcases i1 with i1 | ⟨m', a, b, c, d⟩
  · omega
  · have := hle m' a b c; omega
end Go.Proofs.Ytalecppofemcnaa.ParkP
