/- The plain law of the words: steps by affine maps modulo 2^64, and that 2^64 steps come round. -/
namespace Go.Proofs.Ytikdkljknbgphaa.LcgP
def M : Int := 18446744073709551616
/-- one step of an affine map modulo 2^64 -/
def aff (m a x : Int) : Int := (x * m + a) % M
/-- n steps -/
def itr (f : Int → Int) : Nat → Int → Int
  | 0, x => x
  | n + 1, x => itr f n (f x)
theorem itr_succ' (f : Int → Int) : ∀ (n : Nat) (x : Int), itr f (n + 1) x = f (itr f n x)
  | 0, _ => rfl
  | n + 1, x => by show itr f (n + 1) (f x) = _; rw [itr_succ' f n (f x)]; rfl
theorem itr_add (f : Int → Int) : ∀ (n k : Nat) (x : Int), itr f (n + k) x = itr f k (itr f n x)
  | 0, k, x => by rw [Nat.zero_add]; rfl
  | n + 1, k, x => by rw [Nat.add_right_comm]; exact itr_add f n k (f x)
theorem itr_mul (f : Int → Int) (k : Nat) : ∀ (n : Nat) (x : Int), itr f (n * k) x = itr (itr f k) n x
  | 0, x => by rw [Nat.zero_mul]; rfl
  | n + 1, x => by
    rw [Nat.succ_mul, Nat.add_comm, itr_add, itr_mul f k n]; rfl
theorem aff_aff (m a x : Int) : aff m a (aff m a x) = aff (m * m) (a * (m + 1)) x := by
  unfold aff
  rw [Int.add_emod, Int.mul_emod, Int.emod_emod_of_dvd _ (Int.dvd_refl _), ← Int.mul_emod, ← Int.add_emod]
  congr 1
  rw [Int.add_mul, Int.mul_assoc, Int.mul_add, Int.mul_one, Int.add_assoc]
theorem aff_mod (m a x : Int) : aff (m % M) (a % M) x = aff m a x := by
  unfold aff
  rw [Int.add_emod, Int.mul_emod, Int.emod_emod_of_dvd _ (Int.dvd_refl _), ← Int.mul_emod, Int.emod_emod_of_dvd _ (Int.dvd_refl _), ← Int.add_emod]
theorem itr_two (m a : Int) : itr (aff m a) 2 = aff (m * m % M) (a * (m + 1) % M) := by
  funext x
  rw [aff_mod]; exact aff_aff m a x
/-- the pairs by doubling -/
def dbl : Nat → Int × Int → Int × Int
  | 0, p => p
  | n + 1, p => dbl n (p.1 * p.1 % M, p.2 * (p.1 + 1) % M)
theorem itr_dbl : ∀ (n : Nat) (m a : Int), itr (aff m a) (2 ^ n) = aff (dbl n (m, a)).1 (dbl n (m, a)).2
  | 0, m, a => by funext x; rfl
  | n + 1, m, a => by
    have h := itr_dbl n (m * m % M) (a * (m + 1) % M)
    rw [Nat.pow_succ]
    funext x
    rw [itr_mul, itr_two, h]; rfl
def mul : Int := 6364136223846793005
def add : Int := 1442695040888963407
theorem come_round : dbl 64 (mul, add) = (1, 0) := by decide +kernel
theorem aff_range (m a x : Int) : 0 ≤ aff m a x ∧ aff m a x < M := ⟨Int.emod_nonneg _ (by decide), Int.emod_lt_of_pos _ (by decide)⟩
theorem period (x : Int) (h0 : 0 ≤ x) (h1 : x < M) : itr (aff mul add) (2 ^ 64) x = x := by
  rw [itr_dbl, come_round]
  show (x * 1 + 0) % M = x
  rw [Int.mul_one, Int.add_zero]; exact Int.emod_eq_of_lt h0 h1
theorem itr_range (m a : Int) : ∀ (n : Nat) (x : Int), 0 ≤ x → x < M → 0 ≤ itr (aff m a) n x ∧ itr (aff m a) n x < M
  | 0, _, h0, h1 => ⟨h0, h1⟩
  | n + 1, x, _, _ => itr_range m a n _ (aff_range m a x).1 (aff_range m a x).2
/-- n steps are those of n modulo 2^64 -/
theorem itr_mod (n : Nat) (x : Int) (h0 : 0 ≤ x) (h1 : x < M) : itr (aff mul add) (n % 2 ^ 64) x = itr (aff mul add) n x := by
  have h := Nat.mod_add_div n (2 ^ 64)
  generalize hq : n / 2 ^ 64 = q at h
  have per : ∀ (q : Nat) (y : Int), 0 ≤ y → y < M → itr (aff mul add) (2 ^ 64 * q) y = y := by
    intro q
    induction q with
    | zero => intro y _ _; rfl
    | succ q ih =>
      intro y hy0 hy1
      rw [Nat.mul_succ, itr_add, ih y hy0 hy1]
      exact period y hy0 hy1
  conv => rhs; rw [← h, itr_add]
  exact (per q _ (itr_range _ _ _ _ h0 h1).1 (itr_range _ _ _ _ h0 h1).2).symm
/-- the loop's round -/
theorem itr_half (m a : Int) (n : Nat) (x : Int) : itr (aff m a) n x = itr (aff (m * m % M) (a * (m + 1) % M)) (n / 2) (if n % 2 = 1 then aff m a x else x) := by
  have e : n = n / 2 * 2 + n % 2 := by omega
  rcases Nat.mod_two_eq_zero_or_one n with h | h
  · rw [if_neg (by omega)]
    conv => lhs; rw [e, h, Nat.add_zero, itr_mul, itr_two]
  · rw [if_pos h]
    conv => lhs; rw [e, h, Nat.add_comm, itr_add, itr_mul, itr_two]
    rfl
/-- a step, so many steps, a step back -/
def S (s : Int) : Int := aff mul add s
def J (n s : Int) : Int := itr (aff mul add) n.toNat s
def B (s : Int) : Int := J (M - 1) s
theorem S_range (s : Int) : 0 ≤ S s ∧ S s < M := aff_range _ _ _
theorem J_range (n s : Int) (h0 : 0 ≤ s) (h1 : s < M) : 0 ≤ J n s ∧ J n s < M := itr_range _ _ _ _ h0 h1
theorem B_range (s : Int) (h0 : 0 ≤ s) (h1 : s < M) : 0 ≤ B s ∧ B s < M := J_range _ _ h0 h1
theorem J_zero (s : Int) : J 0 s = s := rfl
theorem J_succ (n s : Int) (h : 0 ≤ n) : S (J n s) = J (n + 1) s := by
  unfold S J
  rw [show (n + 1).toNat = n.toNat + 1 from by omega, itr_succ']
theorem J_mod (n s : Int) (h0 : 0 ≤ n) (hs : 0 ≤ s) (hs1 : s < M) : J (n % M) s = J n s := by
  unfold J
  have e : (n % M).toNat = n.toNat % 2 ^ 64 := by unfold M; omega
  rw [e, itr_mod n.toNat s hs hs1]
theorem J_J (n k s : Int) (h0 : 0 ≤ n) (hk : 0 ≤ k) (hs : 0 ≤ s) (hs1 : s < M) : J k (J n s) = J ((n + k) % M) s := by
  rw [J_mod _ _ (by omega) hs hs1]
  unfold J
  rw [show (n + k).toNat = n.toNat + k.toNat from by omega, itr_add]
theorem S_J (n s : Int) (h0 : 0 ≤ n) (hs : 0 ≤ s) (hs1 : s < M) : S (J n s) = J ((n + 1) % M) s := by
  rw [J_mod _ _ (by omega) hs hs1, J_succ n s h0]
theorem S_B (s : Int) (hs : 0 ≤ s) (hs1 : s < M) : S (B s) = s := by
  unfold B
  rw [J_succ _ _ (by unfold M; omega), ← J_mod _ _ (by unfold M; omega) hs hs1]
  rfl
theorem B_S (s : Int) (hs : 0 ≤ s) (hs1 : s < M) : B (S s) = s := by
  have h : J 1 s = S s := rfl
  unfold B
  rw [← h, J_J 1 (M - 1) s (by omega) (by unfold M; omega) hs hs1]
  rfl
end Go.Proofs.Ytikdkljknbgphaa.LcgP
