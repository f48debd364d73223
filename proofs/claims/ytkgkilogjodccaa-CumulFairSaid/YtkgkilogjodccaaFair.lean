/-
  A rate's table means nearly as many passengers as the rate says.
-/
import Derived.Test.YtkgkilogjodccaaFairN
import Derived.Test.YtkgkilogjodccaaCumPlain
import Derived.Test.YtkgkilogjodccaaTells
namespace Go.Proofs.Ytkgkilogjodccaa
open CumP FairP TellP
set_option linter.unusedVariables false
set_option linter.unusedSimpArgs false
def Acc (rate : Int) (m : Nat) : Nat → Int
  | 0 => 0
  | j + 1 => Acc rate m j + (4294967296 - cell rate m j)
def CC (rate : Int) (m : Nat) : Nat → Int
  | 0 => 0
  | j + 1 => CC rate m j + cell rate m j
theorem acc_cc (rate : Int) (m : Nat) : ∀ j : Nat, Acc rate m j = j * 4294967296 - CC rate m j
  | 0 => by simp [Acc, CC]
  | j + 1 => by simp only [Acc, CC, acc_cc rate m j]; omega
theorem wt_cast (r w k : Nat) (h : (w : Int) = wt r k) : ((w * r / (1000 * (k + 1)) : Nat) : Int) = wt r (k + 1) := by
  show _ = wt r k * (r : Int) / (1000 * ((k : Int) + 1))
  rw [← h, Int.natCast_ediv, Int.natCast_mul, Int.natCast_mul, Int.natCast_add]
  rfl
theorem all_eq (r m : Nat) (hm : Many r m) : ∀ (f k w s : Nat), f + k = 64 → k ≤ m → (w : Int) = wt r k → (s : Int) = S r k → ((FairP.all r f k w s : Nat) : Int) = S r m
  | 0, k, w, s, hf, hk, hw, hs => by
    have := hm.2.1
    obtain rfl : k = m := by omega
    exact hs
  | f + 1, k, w, s, hf, hk, hw, hs => by
    unfold FairP.all
    match w, hw with
    | 0, hw =>
      obtain rfl : k = m := by
        rcases Nat.lt_or_ge k m with h | h
        · have := hm.2.2.1 k h; simp at hw; omega
        · omega
      exact hs
    | w' + 1, hw =>
      have hk2 : k < m := by
        rcases Nat.lt_or_ge k m with h | h
        · exact h
        · obtain rfl : k = m := by omega
          have := hm.2.2.2 (by omega); omega
      exact all_eq r m hm f (k + 1) _ _ (by omega) (by omega) (wt_cast r (w' + 1) k hw) (by simp only [S]; rw [← hw, ← hs]; rfl)
theorem means_eq (r m T : Nat) (h1 : r ≤ 4000) (hm : Many r m) (hT : (T : Int) = S r m) : ∀ (f k w s a : Nat), f + k = 64 → k ≤ m → (w : Int) = wt r k → (s : Int) = S r k → (a : Int) = Acc r m k → ((means r T f k w s a : Nat) : Int) = Acc r m m
  | 0, k, w, s, a, hf, hk, hw, hs, ha => by
    have := hm.2.1
    obtain rfl : k = m := by omega
    exact ha
  | f + 1, k, w, s, a, hf, hk, hw, hs, ha => by
    unfold means
    match w, hw with
    | 0, hw =>
      obtain rfl : k = m := by
        rcases Nat.lt_or_ge k m with h | h
        · have := hm.2.2.1 k h; simp at hw; omega
        · omega
      exact ha
    | w' + 1, hw =>
      have hk2 : k < m := by
        rcases Nat.lt_or_ge k m with h | h
        · exact h
        · obtain rfl : k = m := by omega
          have := hm.2.2.2 (by omega); omega
      have hs2 : ((s + (w' + 1) : Nat) : Int) = S r (k + 1) := by simp only [S]; rw [← hw, ← hs]; rfl
      refine means_eq r m T h1 hm hT f (k + 1) _ _ _ (by omega) (by omega) (wt_cast r (w' + 1) k hw) hs2 ?_
      have hc : (((s + (w' + 1)) * 4294967296 / T : Nat) : Int) = cell r m k := by
        unfold cell
        rw [Int.natCast_ediv, Int.natCast_mul, hs2, hT]; rfl
      have hr := cell_range (rate := (r : Int)) (by omega) (by omega) hk2 hm.2.1
      simp only [Acc]
      generalize (s + (w' + 1)) * 4294967296 / T = q at *
      omega
theorem mn_eq {rate : Int} (h0 : 0 ≤ rate) (h1 : rate ≤ 4000) {m : Nat} (hm : m ≤ 64) : ∀ j : Nat, j < m → mn (tb rate m m) (j + 1) = j * cell rate m j - CC rate m j
  | 0, hj => by simp [mn, CC]
  | j + 1, hj => by
    have ih := mn_eq h0 h1 hm j (by omega)
    have hx : (tb rate m m)[j + 1]? = some (cell rate m (j + 1)) := by simp [tb, hj]
    have hp : (tb rate m m)[j + 1 - 1]? = some (cell rate m j) := by simp [tb, show j < m by omega]
    have hd := dif_next (show 1 ≤ j + 1 by omega) hx hp
    have c0 := cell_range h0 h1 (show j < m by omega) hm
    have c1 := cell_range h0 h1 hj hm
    have hle : cell rate m j ≤ cell rate m (j + 1) := by
      unfold cell
      have p := S_pos h0 (show 1 ≤ m by omega)
      have l := S_le h0 (show j + 1 ≤ j + 1 + 1 by omega)
      exact Int.ediv_le_ediv (by omega) (by omega)
    have hcc : 0 ≤ CC rate m j := by
      have : ∀ i, i ≤ j → 0 ≤ CC rate m i := by
        intro i
        induction i with
        | zero => intro _; simp [CC]
        | succ i ih => intro hi; have := cell_range h0 h1 (show i < m by omega) hm; have := ih (by omega); simp only [CC]; omega
      exact this j (Nat.le_refl _)
    have hm0 := (mn_range (tb rate m m) (j + 1)).1
    rw [show mn (tb rate m m) (j + 1 + 1) = (mn (tb rate m m) (j + 1) + ((j + 1 : Nat) : Int) * dif (tb rate m m) (j + 1) % 18446744073709551616) % 18446744073709551616 from rfl, hd, ih]
    rw [ih] at hm0
    simp only [CC]
    generalize cell rate m j = c at *
    generalize cell rate m (j + 1) = d at *
    generalize CC rate m j = cc at *
    have e1 : (d - c) % 18446744073709551616 = d - c := by omega
    rw [e1]
    have b1 : ((j + 1 : Nat) : Int) * (d - c) ≤ 64 * 4294967296 := Int.mul_le_mul (by omega) (by omega) (by omega) (by decide)
    have b0 : 0 ≤ ((j + 1 : Nat) : Int) * (d - c) := Int.mul_nonneg (by omega) (by omega)
    have b2 : ((j + 1 : Nat) : Int) * d ≤ 64 * 4294967296 := Int.mul_le_mul (by omega) (by omega) (by omega) (by decide)
    have e2 : (j : Int) * c - cc + ((j + 1 : Nat) : Int) * (d - c) = ((j + 1 : Nat) : Int) * d - (cc + c) := by
      rw [show ((j + 1 : Nat) : Int) = (j : Int) + 1 from rfl, Int.mul_sub, Int.add_mul, Int.add_mul, Int.one_mul, Int.one_mul]; omega
    have e3 : ((j + 1 : Nat) : Int) * (d - c) % 18446744073709551616 = ((j + 1 : Nat) : Int) * (d - c) := by omega
    rw [e3, e2]
    have : 0 ≤ ((j + 1 : Nat) : Int) * d - (cc + c) := by rw [← e2]; omega
    omega
theorem mean_fair {rate : Int} (h0 : 0 ≤ rate) (h1 : rate ≤ 4000) {m : Nat} (hm : Many rate m) :
    0 ≤ mn (tb rate m m) m ∧ mn (tb rate m m) m ≤ 274877906944 ∧ 1000 * mn (tb rate m m) m ≤ rate * 4294967296 + 4294967296 ∧ rate * 4294967296 ≤ 1000 * mn (tb rate m m) m + 4294967296 := by
  obtain ⟨r, rfl⟩ := Int.eq_ofNat_of_zero_le h0
  obtain ⟨j, rfl⟩ : ∃ j, m = j + 1 := ⟨m - 1, by have := hm.1; omega⟩
  have hj := hm.2.1
  have e := mn_eq h0 h1 hj j (by omega)
  have hlast : cell (r : Int) (j + 1) j = 4294967296 := by
    unfold cell
    have p := S_pos h0 (show 1 ≤ j + 1 by omega)
    rw [Int.mul_comm]
    exact Int.mul_ediv_cancel _ (by omega)
  have ha := acc_cc (r : Int) (j + 1) j
  have ha2 : Acc (r : Int) (j + 1) (j + 1) = Acc (r : Int) (j + 1) j := by simp only [Acc, hlast]; omega
  have hT := all_eq r (j + 1) hm 64 0 67108864 0 (by omega) (by omega) (by simp [wt]) (by simp [S])
  have hM := means_eq r (j + 1) _ (by omega) hm hT 64 0 67108864 0 0 (by omega) (by omega) (by simp [wt]) (by simp [S]) (by simp [Acc])
  have hf := fairs_at 4001 0 r fair_a (by omega) (by omega)
  unfold fair at hf
  simp only [Bool.and_eq_true, Nat.ble_eq] at hf
  have h3 := (mn_range (tb (r : Int) (j + 1) (j + 1)) (j + 1)).1
  have hcc : mn (tb (r : Int) (j + 1) (j + 1)) (j + 1) = Acc (r : Int) (j + 1) (j + 1) := by rw [e, hlast, ha2, ha]
  rw [hcc] at h3 ⊢
  rw [← hM] at h3 ⊢
  generalize means r (FairP.all r 64 0 67108864 0) 64 0 67108864 0 0 = q at *
  refine ⟨h3, ?_, ?_, ?_⟩ <;> omega
end Go.Proofs.Ytkgkilogjodccaa
