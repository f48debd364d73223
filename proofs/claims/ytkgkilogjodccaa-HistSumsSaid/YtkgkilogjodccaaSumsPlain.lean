/- Sums of so many places, plainly. -/
namespace Go.Proofs.Ytkgkilogjodccaa.SumsP
set_option linter.unusedVariables false
def sum : List Int → Int
  | [] => 0
  | x :: l => x + sum l
theorem sum_append : ∀ (l m : List Int), sum (l ++ m) = sum l + sum m
  | [], m => by simp [sum]
  | x :: l, m => by simp [sum, sum_append l m, Int.add_assoc]
def pre (l : List Int) (k : Nat) : Int := sum (l.take k)
theorem pre_zero (l : List Int) : pre l 0 = 0 := rfl
theorem pre_succ {l : List Int} {k : Nat} {x : Int} (h : l[k]? = some x) : pre l (k + 1) = pre l k + x := by
  unfold pre; rw [List.take_add_one, h, sum_append]; simp [sum]
/-- the places' own sums: of the k from i on, exactly -/
def win (l : List Int) (k i : Nat) : Int := pre l (i + k) - pre l i
/-- of all, ahead of place j, each by 'r' -/
def wins (r : Int → Int) (l : List Int) (k j : Nat) : List Int := (List.range (j + 1 - k)).map fun i => r (win l k i)
theorem wins_length (r : Int → Int) (l : List Int) (k j : Nat) : (wins r l k j).length = j + 1 - k := by simp [wins]
theorem wins_less (r : Int → Int) (l : List Int) (k j : Nat) (h : j + 1 < k) : wins r l k (j + 1) = wins r l k j := by
  unfold wins; rw [show j + 1 + 1 - k = 0 from by omega, show j + 1 - k = 0 from by omega]
theorem wins_more (r : Int → Int) (l : List Int) (k j : Nat) (hk : 1 ≤ k) (h : k ≤ j + 1) : wins r l k (j + 1) = wins r l k j ++ [r (pre l (j + 1) - pre l (j + 1 - k))] := by
  unfold wins
  rw [show j + 1 + 1 - k = (j + 1 - k) + 1 from by omega, List.range_succ, List.map_append]
  simp only [List.map_cons, List.map_nil, win]
  rw [show j + 1 - k + k = j + 1 from by omega]
theorem wins_get {r : Int → Int} {l : List Int} {k j i : Nat} {x : Int} (h : (wins r l k j)[i]? = some x) : x = r (win l k i) ∧ i < j + 1 - k := by
  have hi : i < j + 1 - k := by have := (List.getElem?_eq_some_iff.1 h).1; rwa [wins_length] at this
  simp [wins, hi] at h
  exact ⟨h.symm, hi⟩
/-- where most is, of the first k: at, most; below 0: there are none -/
def Best (l : List Int) (k : Nat) (at_ most : Int) : Prop :=
  (k = 0 ∧ at_ = -1 ∧ most = 0) ∨ ∃ i : Nat, at_ = i ∧ i < k ∧ l[i]? = some most ∧ ∀ (j : Nat) (x : Int), j < k → l[j]? = some x → x ≤ most ∧ (j < i → x ≠ most)
theorem Best.next {l : List Int} {k : Nat} {a m x : Int} (h : Best l k a m) (hx : l[k]? = some x) (hgt : a < 0 ∨ m < x) : Best l (k + 1) k x := by
  refine .inr ⟨k, rfl, by omega, hx, fun j y hj hy => ?_⟩
  rcases Nat.lt_or_ge j k with hlt | hge
  · rcases h with ⟨h0, _⟩ | ⟨i, ha, _, _, hall⟩
    · omega
    · have := (hall j y hlt hy).1
      refine ⟨by omega, fun _ => by omega⟩
  · obtain rfl : j = k := by omega
    rw [hx] at hy; obtain rfl := Option.some.inj hy
    exact ⟨Int.le_refl _, fun h => by omega⟩
theorem Best.stay {l : List Int} {k : Nat} {a m x : Int} (h : Best l k a m) (hx : l[k]? = some x) (hle : ¬ (a < 0 ∨ m < x)) : Best l (k + 1) a m := by
  rcases h with ⟨h0, ha, hm⟩ | ⟨i, ha, hik, hi, hall⟩
  · exact absurd (.inl (by omega)) hle
  · refine .inr ⟨i, ha, by omega, hi, fun j y hj hy => ?_⟩
    rcases Nat.lt_or_ge j k with hlt | hge
    · exact hall j y hlt hy
    · obtain rfl : j = k := by omega
      rw [hx] at hy; obtain rfl := Option.some.inj hy
      exact ⟨by omega, fun _ => by omega⟩
end Go.Proofs.Ytkgkilogjodccaa.SumsP
