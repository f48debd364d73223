/- The weights of a rate, and the table that they make, plainly. -/
namespace Go.Proofs.Ytkgkilogjodccaa.CumP
set_option linter.unusedVariables false
def wt (rate : Int) : Nat → Int
  | 0 => 67108864
  | k + 1 => wt rate k * rate / (1000 * ((k : Int) + 1))
theorem wt_nonneg {rate : Int} (h : 0 ≤ rate) : ∀ k, 0 ≤ wt rate k
  | 0 => by simp [wt]
  | k + 1 => Int.ediv_nonneg (Int.mul_nonneg (wt_nonneg h k) h) (by omega)
theorem wt_mono {rate : Int} (h : 0 ≤ rate) (h1 : rate ≤ 4000) : ∀ k, wt rate k ≤ wt 4000 k
  | 0 => Int.le_refl _
  | k + 1 => Int.ediv_le_ediv (by omega) (Int.mul_le_mul (wt_mono h h1 k) h1 h (wt_nonneg (by decide) k))
/-- the sum of the first m -/
def S (rate : Int) : Nat → Int
  | 0 => 0
  | m + 1 => S rate m + wt rate m
theorem S_mono {rate : Int} (h : 0 ≤ rate) (h1 : rate ≤ 4000) : ∀ m, S rate m ≤ S 4000 m
  | 0 => Int.le_refl _
  | m + 1 => by have := S_mono h h1 m; have := wt_mono h h1 m; simp only [S]; omega
theorem S_up {rate : Int} (h : 0 ≤ rate) : ∀ (d m : Nat), S rate m ≤ S rate (m + d)
  | 0, m => Int.le_refl _
  | d + 1, m => by have := S_up h d m; have := wt_nonneg h (m + d); rw [← Nat.add_assoc]; simp only [S]; omega
theorem S_le {rate : Int} (h : 0 ≤ rate) {i m : Nat} (hi : i ≤ m) : S rate i ≤ S rate m := by
  obtain ⟨d, rfl⟩ := Nat.exists_eq_add_of_le hi
  exact S_up h d i
theorem S_top : S 4000 64 ≤ 4294967295 := by decide +kernel
theorem S_range {rate : Int} (h : 0 ≤ rate) (h1 : rate ≤ 4000) {m : Nat} (hm : m ≤ 64) : 0 ≤ S rate m ∧ S rate m ≤ 4294967295 := by
  have a := S_le h (Nat.zero_le m)
  have b := S_le h hm
  have c := S_mono h h1 64
  have d := S_top
  have : S rate 0 = 0 := rfl
  omega
theorem wt_range {rate : Int} (h : 0 ≤ rate) (h1 : rate ≤ 4000) {k : Nat} (hk : k < 64) : 0 ≤ wt rate k ∧ wt rate k ≤ 4294967295 := by
  have a := S_range h h1 (m := k) (by omega)
  have b := S_range h h1 (m := k + 1) (by omega)
  have c := wt_nonneg h k
  simp only [S] at b
  omega
theorem S_pos {rate : Int} (h : 0 ≤ rate) {m : Nat} (hm : 1 ≤ m) : 67108864 ≤ S rate m := by
  have := S_le h hm
  have : S rate 1 = 67108864 := by simp [S, wt]
  omega
/-- m is how many weights there are -/
def Many (rate : Int) (m : Nat) : Prop := 1 ≤ m ∧ m ≤ 64 ∧ (∀ i, i < m → 0 < wt rate i) ∧ (m < 64 → wt rate m = 0)
theorem Many.not_lt {rate : Int} {m k : Nat} (h : Many rate m) (h' : Many rate k) : ¬ m < k := by
  intro hlt
  have a := h.2.2.2 (by have := h'.2.1; omega)
  have b := h'.2.2.1 m hlt
  omega
theorem Many.one {rate : Int} {m k : Nat} (h : Many rate m) (h' : Many rate k) : m = k := by
  have := h.not_lt h'; have := h'.not_lt h; omega
def wl (rate : Int) (m : Nat) : List Int := (List.range m).map (wt rate)
theorem wl_length (rate : Int) (m : Nat) : (wl rate m).length = m := by simp [wl]
theorem wl_next (rate : Int) (m : Nat) : wl rate (m + 1) = wl rate m ++ [wt rate m] := by unfold wl; rw [List.range_succ, List.map_append]; rfl
theorem wl_get {rate : Int} {m i : Nat} {x : Int} (h : (wl rate m)[i]? = some x) : x = wt rate i ∧ i < m := by
  have hi : i < m := by have := (List.getElem?_eq_some_iff.1 h).1; rwa [wl_length] at this
  simp [wl, hi] at h
  exact ⟨h.symm, hi⟩
/-- the table's number at a place, of m -/
def cell (rate : Int) (m i : Nat) : Int := S rate (i + 1) * 4294967296 / S rate m
def tb (rate : Int) (m j : Nat) : List Int := (List.range j).map (cell rate m)
theorem tb_length (rate : Int) (m j : Nat) : (tb rate m j).length = j := by simp [tb]
theorem tb_next (rate : Int) (m j : Nat) : tb rate m (j + 1) = tb rate m j ++ [cell rate m j] := by unfold tb; rw [List.range_succ, List.map_append]; rfl
/-- the first j of the table, behind them the weights -/
def mix (rate : Int) (m j : Nat) : List Int := (List.range m).map fun i => if i < j then cell rate m i else wt rate i
theorem mix_length (rate : Int) (m j : Nat) : (mix rate m j).length = m := by simp [mix]
theorem mix_zero (rate : Int) (m : Nat) : mix rate m 0 = wl rate m := by unfold mix wl; simp
theorem mix_end (rate : Int) (m : Nat) : mix rate m m = tb rate m m := by
  unfold mix tb
  apply List.map_congr_left
  intro i hi
  rw [if_pos (List.mem_range.1 hi)]
theorem mix_get {rate : Int} {m j : Nat} {x : Int} (h : (mix rate m j)[j]? = some x) : x = wt rate j := by
  have hi : j < m := by have := (List.getElem?_eq_some_iff.1 h).1; rwa [mix_length] at this
  simp [mix, hi] at h
  exact h.symm
theorem mix_next {rate : Int} {m j : Nat} (hj : j < m) : (mix rate m j).set j (cell rate m j) = mix rate m (j + 1) := by
  apply List.ext_getElem?
  intro i
  rw [List.getElem?_set, mix_length]
  by_cases hi : j = i
  · subst hi; rw [if_pos rfl, if_pos hj]; simp [mix, hj]
  · rw [if_neg hi]
    by_cases hm : i < m
    · have : (i < j + 1) = (i < j) := by apply propext; omega
      simp [mix, hm, this]
    · simp [mix, hm]
theorem cell_range {rate : Int} (h : 0 ≤ rate) (h1 : rate ≤ 4000) {m i : Nat} (hi : i < m) (hm : m ≤ 64) : 0 ≤ cell rate m i ∧ cell rate m i ≤ 4294967296 := by
  have a := S_range h h1 (m := i + 1) (by omega)
  have p := S_pos h (m := m) (by omega)
  have l := S_le h (show i + 1 ≤ m by omega)
  refine ⟨Int.ediv_nonneg (by omega) (by omega), ?_⟩
  refine Int.ediv_le_of_le_mul (by omega) ?_
  rw [Int.mul_comm 4294967296]
  exact Int.mul_le_mul_of_nonneg_right l (by omega)
/-- two numbers over one, bit by bit: what the first bits make -/
def top (hi lo : Int) (m : Nat) : Int := (hi * 18446744073709551616 + lo) / 2 ^ m
theorem top_next {hi lo : Int} {m : Nat} (hm : m ≤ 63) : top hi lo m = 2 * top hi lo (m + 1) + lo / 2 ^ m % 2 := by
  unfold top
  have hp : (0 : Int) < 2 ^ m := Int.pow_pos (by decide)
  rw [Int.pow_succ, ← Int.ediv_ediv_of_nonneg (by omega)]
  have e : (hi * 18446744073709551616 + lo) / 2 ^ m = hi * (2 * 2 ^ (63 - m)) + lo / 2 ^ m := by
    have hpow : (18446744073709551616 : Int) = 2 * 2 ^ (63 - m) * 2 ^ m := by
      rw [Int.mul_assoc, ← Int.pow_add, show 63 - m + m = 63 by omega]; decide
    rw [hpow, ← Int.mul_assoc, Int.add_comm, Int.add_mul_ediv_right _ _ (by omega), Int.add_comm]
  rw [e]
  generalize lo / 2 ^ m = x
  have e2 : hi * (2 * 2 ^ (63 - m)) = 2 * (hi * 2 ^ (63 - m)) := by rw [Int.mul_left_comm]
  rw [e2]
  generalize hi * 2 ^ (63 - m) = y
  omega
end Go.Proofs.Ytkgkilogjodccaa.CumP
