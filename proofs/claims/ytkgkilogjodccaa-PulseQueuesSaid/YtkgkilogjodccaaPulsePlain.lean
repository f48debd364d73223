/- Counting, plainly: how many of some numbers lie in each time. -/
namespace Go.Proofs.Ytkgkilogjodccaa.PulseP
def many (h w : Int) : Int := h / w + (if 0 < h % w then 1 else 0)
theorem many_nonneg {h w : Int} (h0 : 0 ≤ h) (h1 : 1 ≤ w) : 0 ≤ many h w := by
  have := Int.ediv_nonneg h0 (show 0 ≤ w by omega)
  unfold many; split <;> omega
theorem place {h w t : Int} (h1 : 1 ≤ w) (t0 : 0 ≤ t) (th : t < h) : 0 ≤ t / w ∧ t / w < many h w := by
  refine ⟨Int.ediv_nonneg t0 (by omega), ?_⟩
  have e1 := Int.mul_ediv_add_emod h w
  have e2 := Int.mul_ediv_add_emod t w
  have a1 := Int.emod_nonneg t (show w ≠ 0 by omega)
  have a2 := Int.emod_lt_of_pos h (show 0 < w by omega)
  have a3 := Int.emod_nonneg h (show w ≠ 0 by omega)
  unfold many
  generalize t / w = q at *
  generalize h / w = p at *
  generalize t % w = r at *
  generalize h % w = s at *
  rcases Int.lt_or_le q p with hlt | hge
  · split <;> omega
  · have hm : w * p ≤ w * q := Int.mul_le_mul_of_nonneg_left hge (by omega)
    rcases Int.lt_or_le p q with h2 | h2
    · have hm2 : w * (p + 1) ≤ w * q := Int.mul_le_mul_of_nonneg_left (by omega) (by omega)
      rw [Int.mul_add, Int.mul_one] at hm2
      omega
    · have : p = q := by omega
      subst this
      rw [if_pos (by omega)]; omega
/-- does a number lie in a time? -/
def inB (h w : Int) (i : Int) (t : Int) : Bool := decide (0 ≤ t ∧ t < h ∧ t / w = i)
def cnt (h w : Int) (ts : List Int) (i : Nat) : Int := ((ts.filter (inB h w i)).length : Int)
def counts (h w : Int) (m : Nat) (ts : List Int) : List Int := (List.range m).map (cnt h w ts)
theorem counts_length (h w : Int) (m : Nat) (ts : List Int) : (counts h w m ts).length = m := by simp [counts]
theorem counts_nil (h w : Int) (m : Nat) : counts h w m [] = List.replicate m 0 := by
  apply List.ext_getElem?
  intro i
  by_cases hi : i < m <;> simp [counts, cnt, hi]
theorem cnt_snoc (h w : Int) (ts : List Int) (t : Int) (i : Nat) : cnt h w (ts ++ [t]) i = cnt h w ts i + (if inB h w i t then 1 else 0) := by
  unfold cnt; rw [List.filter_append]
  by_cases hb : inB h w i t <;> simp [hb]
theorem cnt_range (h w : Int) (ts : List Int) (i : Nat) : 0 ≤ cnt h w ts i ∧ cnt h w ts i ≤ ts.length := by
  have := List.length_filter_le (inB h w i) ts
  unfold cnt; omega
theorem counts_get {h w : Int} {m : Nat} {ts : List Int} {i : Nat} {x : Int} (hi : i < m) (hx : (counts h w m ts)[i]? = some x) : x = cnt h w ts i := by
  simp [counts, hi] at hx; exact hx.symm
theorem counts_in {h w : Int} {m : Nat} {ts : List Int} {t : Int} {q : Nat} (h0 : 0 ≤ t) (h1 : t < h) (hq : t / w = q) :
    (counts h w m ts).set q (cnt h w ts q + 1) = counts h w m (ts ++ [t]) := by
  apply List.ext_getElem?
  intro i
  rw [List.getElem?_set]
  by_cases hi : q = i
  · subst hi
    rw [if_pos rfl, counts_length]
    by_cases hm : q < m
    · rw [if_pos hm]; simp [counts, hm, cnt_snoc, inB, h0, h1, hq]
    · rw [if_neg hm]; simp [counts, hm]
  · rw [if_neg hi]
    by_cases hm : i < m
    · have : inB h w i t = false := by simp [inB]; intro _ _; omega
      simp [counts, hm, cnt_snoc, this]
    · simp [counts, hm]
theorem counts_out {h w : Int} {m : Nat} {ts : List Int} {t : Int} (h0 : ¬ (0 ≤ t ∧ t < h)) : counts h w m (ts ++ [t]) = counts h w m ts := by
  apply List.ext_getElem?
  intro i
  by_cases hm : i < m
  · have : inB h w i t = false := by simp [inB]; intro a b; exact absurd ⟨a, b⟩ h0
    simp [counts, hm, cnt_snoc, this]
  · simp [counts, hm]
/-- the law's own rows: those ahead of i are done, of i the first k are -/
def part (h w : Int) (m : Nat) (ts : List Int) (i k : Nat) : List Int := (List.range m).map fun j => if j < i then cnt h w ts j else if j = i then cnt h w (ts.take k) j else 0
theorem part_length (h w : Int) (m : Nat) (ts : List Int) (i k : Nat) : (part h w m ts i k).length = m := by simp [part]
theorem part_zero (h w : Int) (m : Nat) (ts : List Int) : part h w m ts 0 0 = List.replicate m 0 := by
  apply List.ext_getElem?
  intro i
  by_cases hi : i < m
  · simp [part, hi, cnt]
  · simp [part, hi]
theorem part_next (h w : Int) (m : Nat) (ts : List Int) (i k : Nat) (hk : ts.length ≤ k) : part h w m ts i k = part h w m ts (i + 1) 0 := by
  apply List.ext_getElem?
  intro j
  by_cases hj : j < m
  · simp only [part, List.getElem?_map, List.getElem?_range hj, Option.map_some]
    rw [List.take_of_length_le hk]
    by_cases h1 : j < i
    · rw [if_pos h1, if_pos (by omega)]
    · by_cases h2 : j = i
      · rw [if_neg h1, if_pos h2, if_pos (by omega)]
      · rw [if_neg h1, if_neg h2, if_neg (by omega)]
        by_cases h3 : j = i + 1 <;> simp [cnt, h3]
  · simp [part, hj]
theorem part_done (h w : Int) (m : Nat) (ts : List Int) (i : Nat) (hi : m ≤ i) : part h w m ts i 0 = counts h w m ts := by
  apply List.ext_getElem?
  intro j
  by_cases hj : j < m
  · simp only [part, counts, List.getElem?_map, List.getElem?_range hj, Option.map_some]
    rw [if_pos (by omega)]
  · simp [part, counts, hj]
theorem part_get {h w : Int} {m : Nat} {ts : List Int} {i k : Nat} {x : Int} (hi : i < m) (hx : (part h w m ts i k)[i]? = some x) : x = cnt h w (ts.take k) i := by
  simp [part, hi] at hx; exact hx.symm
theorem part_in {h w : Int} {m : Nat} {ts : List Int} {i k : Nat} {t : Int} (hk : ts[k]? = some t) (h0 : 0 ≤ t) (h1 : t < h) (hq : t / w = i) :
    (part h w m ts i k).set i (cnt h w (ts.take k) i + 1) = part h w m ts i (k + 1) := by
  apply List.ext_getElem?
  intro j
  rw [List.getElem?_set]
  by_cases hj : i = j
  · subst hj
    rw [if_pos rfl, part_length]
    by_cases hm : i < m
    · rw [if_pos hm]; simp only [part, List.getElem?_map, List.getElem?_range hm, Option.map_some]
      rw [if_neg (by omega), List.take_add_one, hk]
      simp [cnt_snoc, inB, h0, h1, hq]
    · rw [if_neg hm]; simp [part, hm]
  · rw [if_neg hj]
    by_cases hm : j < m
    · simp only [part, List.getElem?_map, List.getElem?_range hm, Option.map_some]
      rw [if_neg (show ¬ j = i by omega)]
      rw [if_neg (show ¬ j = i by omega)]
    · simp [part, hm]
theorem part_out {h w : Int} {m : Nat} {ts : List Int} {i k : Nat} {t : Int} (hk : ts[k]? = some t) (hno : ¬ (0 ≤ t ∧ t < h ∧ t / w = i)) : part h w m ts i (k + 1) = part h w m ts i k := by
  apply List.ext_getElem?
  intro j
  by_cases hm : j < m
  · simp only [part, List.getElem?_map, List.getElem?_range hm, Option.map_some]
    by_cases hj : j = i
    · subst hj
      rw [if_neg (by omega), if_pos rfl, if_neg (by omega), if_pos rfl, List.take_add_one, hk]
      have : inB h w j t = false := by simp only [inB, decide_eq_false_iff_not]; exact hno
      simp [cnt_snoc, this]
    · rw [if_neg hj, if_neg hj]
  · simp [part, hm]
end Go.Proofs.Ytkgkilogjodccaa.PulseP
