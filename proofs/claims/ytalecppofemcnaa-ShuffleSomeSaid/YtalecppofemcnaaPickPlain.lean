/- Weights, plainly: what they weigh together, and the place of a number. -/
namespace Go.Proofs.Ytalecppofemcnaa.PickP
def sum : List Int → Int
  | [] => 0
  | x :: l => x + sum l
theorem sum_append : ∀ (l m : List Int), sum (l ++ m) = sum l + sum m
  | [], m => by simp [sum]
  | x :: l, m => by simp [sum, sum_append l m, Int.add_assoc]
/-- of the first k -/
def pre (l : List Int) (k : Nat) : Int := sum (l.take k)
theorem pre_zero (l : List Int) : pre l 0 = 0 := rfl
theorem pre_succ {l : List Int} {k : Nat} {x : Int} (h : l[k]? = some x) : pre l (k + 1) = pre l k + x := by
  unfold pre; rw [List.take_add_one, h, sum_append]; simp [sum]
theorem pre_all (l : List Int) (k : Nat) (h : l.length ≤ k) : pre l k = sum l := by unfold pre; rw [List.take_of_length_le h]
theorem pre_step (l : List Int) (h : ∀ x ∈ l, 0 ≤ x) (k : Nat) : pre l k ≤ pre l (k + 1) := by
  rcases Nat.lt_or_ge k l.length with hl | hl
  · have := h _ (List.getElem_mem hl)
    rw [pre_succ (List.getElem?_eq_getElem hl)]; omega
  · rw [pre_all l k hl, pre_all l (k + 1) (by omega)]; omega
theorem pre_mono (l : List Int) (h : ∀ x ∈ l, 0 ≤ x) (j : Nat) : ∀ d : Nat, pre l j ≤ pre l (j + d)
  | 0 => Int.le_refl _
  | d + 1 => Int.le_trans (pre_mono l h j d) (pre_step l h (j + d))
theorem pre_le (l : List Int) (h : ∀ x ∈ l, 0 ≤ x) {a b : Nat} (hab : a ≤ b) : pre l a ≤ pre l b := by
  have := pre_mono l h a (b - a); rwa [Nat.add_sub_cancel' hab] at this
theorem pre_le_sum (l : List Int) (h : ∀ x ∈ l, 0 ≤ x) (k : Nat) : pre l k ≤ sum l := by
  rcases Nat.lt_or_ge k l.length with hl | hl
  · rw [← pre_all l l.length (Nat.le_refl _)]; exact pre_le l h (by omega)
  · rw [pre_all l k hl]; omega
theorem pre_nonneg (l : List Int) (h : ∀ x ∈ l, 0 ≤ x) (k : Nat) : 0 ≤ pre l k := by have := pre_le l h (Nat.zero_le k); rwa [pre_zero] at this
/-- all weights together, and the error's number -/
def total (l : List Int) : Int × Int := if l.any (fun x => decide (x < 0)) then (0, 22) else if 2147483648 < sum l then (0, 21) else if sum l = 0 then (0, 22) else (sum l, 0)
theorem total_neg {l : List Int} {x : Int} {k : Nat} (h : l[k]? = some x) (hx : x < 0) : total l = (0, 22) := by
  unfold total; rw [if_pos]; rw [List.any_eq_true]; exact ⟨x, List.mem_of_getElem? h, by simpa using hx⟩
theorem any_no {l : List Int} (h : ∀ x ∈ l, 0 ≤ x) : l.any (fun x => decide (x < 0)) = false := by
  rw [List.any_eq_false]; intro x hx; have := h x hx; simp; omega
theorem total_big {l : List Int} (h : ∀ x ∈ l, 0 ≤ x) (hs : 2147483648 < sum l) : total l = (0, 21) := by unfold total; rw [any_no h, if_neg (by simp), if_pos hs]
theorem total_zero {l : List Int} (h : ∀ x ∈ l, 0 ≤ x) (hs : sum l = 0) : total l = (0, 22) := by unfold total; rw [any_no h, if_neg (by simp), if_neg (by omega), if_pos hs]
theorem total_ok {l : List Int} (h : ∀ x ∈ l, 0 ≤ x) (hs : ¬ 2147483648 < sum l) (h0 : ¬ sum l = 0) : total l = (sum l, 0) := by unfold total; rw [any_no h, if_neg (by simp), if_neg hs, if_neg h0]
theorem total_cases (l : List Int) : (∃ e, total l = (0, e) ∧ (e = 21 ∨ e = 22)) ∨ ((∀ x ∈ l, 0 ≤ x) ∧ total l = (sum l, 0) ∧ 0 < sum l ∧ sum l ≤ 2147483648) := by
  by_cases h : ∀ x ∈ l, 0 ≤ x
  · by_cases h1 : 2147483648 < sum l
    · exact .inl ⟨21, total_big h h1, .inl rfl⟩
    · by_cases h2 : sum l = 0
      · exact .inl ⟨22, total_zero h h2, .inr rfl⟩
      · have := pre_nonneg l h l.length
        rw [pre_all l _ (Nat.le_refl _)] at this
        exact .inr ⟨h, total_ok h h1 h2, by omega, by omega⟩
  · refine .inl ⟨22, ?_, .inr rfl⟩
    have h' : l.any (fun x => decide (x < 0)) = true := by
      rw [List.any_eq_true]
      have := Classical.not_forall.1 h
      obtain ⟨x, hx⟩ := this
      have := Classical.not_imp.1 hx
      exact ⟨x, this.1, by simp; omega⟩
    unfold total; rw [h', if_pos rfl]
/-- what a word scales to, below a sum -/
def num (w s : Int) : Int := w * s / 4294967296
theorem mul_range {w s : Int} (h0 : 0 ≤ w) (h1 : w ≤ 4294967295) (h2 : 0 ≤ s) (h3 : s ≤ 4294967295) : 0 ≤ w * s ∧ w * s ≤ 18446744065119617025 := by
  have a := Int.mul_nonneg h0 h2
  have b : w * s ≤ 4294967295 * s := Int.mul_le_mul_of_nonneg_right h1 h2
  omega
theorem num_range {w s : Int} (h0 : 0 ≤ w) (h1 : w ≤ 4294967295) (h2 : 0 < s) : 0 ≤ num w s ∧ num w s < s := by
  have a := Int.mul_nonneg h0 (Int.le_of_lt h2)
  have b : w * s ≤ 4294967295 * s := Int.mul_le_mul_of_nonneg_right h1 (Int.le_of_lt h2)
  unfold num; omega
theorem num_mono {v w s : Int} (h : v ≤ w) (hs : 0 ≤ s) : num v s ≤ num w s := by
  have b : v * s ≤ w * s := Int.mul_le_mul_of_nonneg_right h hs
  unfold num; omega
/-- k is the first place up to which the weights are more than n -/
def Spot (l : List Int) (n : Int) (k : Nat) : Prop := k < l.length ∧ pre l k ≤ n ∧ n < pre l (k + 1)
theorem Spot.le {l : List Int} (h : ∀ x ∈ l, 0 ≤ x) {n n' : Int} {k k' : Nat} (p : Spot l n k) (p' : Spot l n' k') (hn : n ≤ n') : k ≤ k' := by
  rcases Nat.lt_or_ge k' k with hlt | hge
  · have := pre_le l h (show k' + 1 ≤ k from hlt)
    have := p.2.1
    have := p'.2.2
    omega
  · exact hge
theorem Spot.one {l : List Int} (h : ∀ x ∈ l, 0 ≤ x) {n : Int} {k k' : Nat} (p : Spot l n k) (p' : Spot l n k') : k = k' :=
  Nat.le_antisymm (p.le h p' (Int.le_refl _)) (p'.le h p (Int.le_refl _))
theorem Spot.weighs {l : List Int} {n : Int} {k : Nat} {x : Int} (p : Spot l n k) (h : l[k]? = some x) : 0 < x := by
  have a := p.2.1
  have b := p.2.2
  rw [pre_succ h] at b; omega
end Go.Proofs.Ytalecppofemcnaa.PickP
