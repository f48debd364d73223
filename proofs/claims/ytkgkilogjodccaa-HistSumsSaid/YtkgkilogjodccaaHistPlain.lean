/- Bins, plainly. -/
namespace Go.Proofs.Ytkgkilogjodccaa.HistP
def right (b w : Int) : Bool := decide (1 ≤ b ∧ b ≤ 64 ∧ 1 ≤ w ∧ w ≤ 4096)
theorem right_yes {b w : Int} (h : right b w = true) : 1 ≤ b ∧ b ≤ 64 ∧ 1 ≤ w ∧ w ≤ 4096 := by simpa [right] using h
/-- the bin of a number that isn't below 0 -/
def binOf (b w n : Int) : Int := min (n / w) (b - 1)
theorem binOf_range {b w n : Int} (hb : 1 ≤ b) (hw : 1 ≤ w) (hn : 0 ≤ n) : 0 ≤ binOf b w n ∧ binOf b w n < b := by
  have := Int.ediv_nonneg hn (show 0 ≤ w by omega)
  unfold binOf; omega
/-- the bin, bin by bin -/
theorem div_at {w n i : Int} (hw : 1 ≤ w) (h1 : i * w ≤ n) (h2 : n < (i + 1) * w) : n / w = i := by
  have e := Int.mul_ediv_add_emod n w
  have a := Int.emod_nonneg n (show w ≠ 0 by omega)
  have b := Int.emod_lt_of_pos n (show 0 < w by omega)
  rw [Int.add_mul, Int.one_mul] at h2
  rw [Int.mul_comm] at e
  generalize n / w = q at *
  rcases Int.lt_trichotomy q i with h | h | h
  · have := Int.mul_le_mul_of_nonneg_right (show q + 1 ≤ i by omega) (show 0 ≤ w by omega)
    rw [Int.add_mul, Int.one_mul] at this; omega
  · exact h
  · have := Int.mul_le_mul_of_nonneg_right (show i + 1 ≤ q by omega) (show 0 ≤ w by omega)
    rw [Int.add_mul, Int.one_mul] at this; omega
theorem div_ge {w n i : Int} (hw : 1 ≤ w) (h1 : i * w ≤ n) : i ≤ n / w := Int.le_ediv_of_mul_le (by omega) h1
theorem bin_mid {b w n i : Int} (hw : 1 ≤ w) (hi : i ≤ b - 1) (h1 : i * w ≤ n) (h2 : n < (i + 1) * w) : binOf b w n = i := by
  unfold binOf; rw [div_at hw h1 h2]; omega
theorem bin_last {b w n i : Int} (hw : 1 ≤ w) (hi : i = b - 1) (h1 : i * w ≤ n) : binOf b w n = i := by
  have := div_ge hw h1
  unfold binOf; omega
/-- how many of some numbers are in a bin -/
def inB (b w : Int) (i : Int) (t : Int) : Bool := decide (0 ≤ t ∧ binOf b w t = i)
def cnt (b w : Int) (ts : List Int) (i : Nat) : Int := ((ts.filter (inB b w i)).length : Int)
def counts (b w : Int) (m : Nat) (ts : List Int) : List Int := (List.range m).map (cnt b w ts)
theorem counts_length (b w : Int) (m : Nat) (ts : List Int) : (counts b w m ts).length = m := by simp [counts]
theorem counts_nil (b w : Int) (m : Nat) : counts b w m [] = List.replicate m 0 := by
  apply List.ext_getElem?
  intro i
  by_cases hi : i < m <;> simp [counts, cnt, hi]
theorem cnt_snoc (b w : Int) (ts : List Int) (t : Int) (i : Nat) : cnt b w (ts ++ [t]) i = cnt b w ts i + (if inB b w i t then 1 else 0) := by
  unfold cnt; rw [List.filter_append]
  by_cases hb : inB b w i t <;> simp [hb]
theorem cnt_range (b w : Int) (ts : List Int) (i : Nat) : 0 ≤ cnt b w ts i ∧ cnt b w ts i ≤ ts.length := by
  have := List.length_filter_le (inB b w i) ts
  unfold cnt; omega
theorem counts_get {b w : Int} {m : Nat} {ts : List Int} {i : Nat} {x : Int} (hi : i < m) (hx : (counts b w m ts)[i]? = some x) : x = cnt b w ts i := by
  simp [counts, hi] at hx; exact hx.symm
theorem counts_in {b w : Int} {m : Nat} {ts : List Int} {t : Int} {q : Nat} (h0 : 0 ≤ t) (hq : binOf b w t = q) :
    (counts b w m ts).set q (cnt b w ts q + 1) = counts b w m (ts ++ [t]) := by
  apply List.ext_getElem?
  intro i
  rw [List.getElem?_set]
  by_cases hi : q = i
  · subst hi
    rw [if_pos rfl, counts_length]
    by_cases hm : q < m
    · rw [if_pos hm]; simp [counts, hm, cnt_snoc, inB, h0, hq]
    · rw [if_neg hm]; simp [counts, hm]
  · rw [if_neg hi]
    by_cases hm : i < m
    · have : inB b w i t = false := by simp [inB]; intro _; omega
      simp [counts, hm, cnt_snoc, this]
    · simp [counts, hm]
theorem counts_out {b w : Int} {m : Nat} {ts : List Int} {t : Int} (h0 : t < 0) : counts b w m (ts ++ [t]) = counts b w m ts := by
  apply List.ext_getElem?
  intro i
  by_cases hm : i < m
  · have : inB b w i t = false := by simp [inB]; intro a; omega
    simp [counts, hm, cnt_snoc, this]
  · simp [counts, hm]
def sum : List Int → Int
  | [] => 0
  | x :: l => x + sum l
theorem sum_append : ∀ (l m : List Int), sum (l ++ m) = sum l + sum m
  | [], m => by simp [sum]
  | x :: l, m => by simp [sum, sum_append l m, Int.add_assoc]
theorem sum_bound {c : Int} : ∀ l : List Int, (∀ x ∈ l, 0 ≤ x ∧ x ≤ c) → 0 ≤ sum l ∧ sum l ≤ c * l.length
  | [], _ => by simp [sum]
  | x :: l, h => by
    have h1 := h x (List.mem_cons_self ..)
    have h2 := sum_bound l (fun y hy => h y (List.mem_cons_of_mem _ hy))
    simp only [sum, List.length_cons, Int.natCast_add, Int.mul_add, Int.natCast_one, Int.mul_one]; omega
theorem sum_replicate : ∀ n : Nat, sum (List.replicate n 0) = 0
  | 0 => rfl
  | n + 1 => by rw [List.replicate_succ]; simp [sum, sum_replicate n]
theorem sum_set : ∀ (l : List Int) (i : Nat) (x y : Int), l[i]? = some x → sum (l.set i y) = sum l + (y - x)
  | [], _, _, _, h => by simp at h
  | a :: l, 0, x, y, h => by
    simp only [List.getElem?_cons_zero, Option.some.injEq] at h
    subst h; simp only [List.set_cons_zero, sum]; omega
  | a :: l, i + 1, x, y, h => by
    rw [List.getElem?_cons_succ] at h
    simp only [List.set_cons_succ, sum, sum_set l i x y h]; omega
theorem sum_counts {b w : Int} {m : Nat} (hm : b = m) (hb : 1 ≤ b) (hw : 1 ≤ w) : ∀ ts : List Int, (∀ t ∈ ts, 0 ≤ t) → sum (counts b w m ts) = ts.length := by
  intro ts
  have key : ∀ (l : List Int), (∀ t ∈ l, 0 ≤ t) → ∀ pre : List Int, sum (counts b w m (pre ++ l)) = sum (counts b w m pre) + l.length := by
    intro l
    induction l with
    | nil => intro _ pre; simp
    | cons t l ih =>
      intro h pre
      have ht := h t (List.mem_cons_self ..)
      have r := binOf_range hb hw ht
      obtain ⟨q, hq⟩ := Int.eq_ofNat_of_zero_le r.1
      have hqm : q < m := by omega
      have h2 := ih (fun t' ht' => h t' (List.mem_cons_of_mem _ ht')) (pre ++ [t])
      rw [List.append_assoc, List.singleton_append] at h2
      have hget : (counts b w m pre)[q]? = some (cnt b w pre q) := by simp [counts, hqm]
      rw [h2, ← counts_in ht hq, sum_set _ _ _ _ hget, List.length_cons]
      omega
  intro h
  have := key ts h []
  rw [counts_nil, sum_replicate, List.nil_append] at this
  omega
end Go.Proofs.Ytkgkilogjodccaa.HistP
