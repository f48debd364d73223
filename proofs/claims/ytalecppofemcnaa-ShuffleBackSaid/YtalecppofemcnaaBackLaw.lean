/-
  What puts an order back, plainly.
-/
import Derived.Test.YtalecppofemcnaaBack
namespace Go.Proofs.Ytalecppofemcnaa.BackP
set_option linter.unusedVariables false
theorem pig : ∀ (l S : List Int), l.Nodup → (∀ x ∈ l, x ∈ S) → S.length ≤ l.length → ∀ y ∈ S, y ∈ l
  | [], S, _, _, hl, y, hy => by
    have : S = [] := List.length_eq_zero_iff.1 (by simpa using hl)
    subst this; cases hy
  | a :: l, S, hn, hs, hl, y, hy => by
    rw [List.nodup_cons] at hn
    have ha := hs a (List.mem_cons_self ..)
    by_cases h : y = a
    · subst h; exact List.mem_cons_self ..
    · refine List.mem_cons_of_mem _ (pig l (S.erase a) hn.2 (fun x hx => ?_) ?_ y ?_)
      · have hne : x ≠ a := fun h => hn.1 (h ▸ hx)
        exact (List.mem_erase_of_ne hne).2 (hs x (List.mem_cons_of_mem _ hx))
      · rw [List.length_erase_of_mem ha]; simp at hl; omega
      · exact (List.mem_erase_of_ne h).2 hy
theorem pos_ge {l : List Int} {x : Int} {i : Nat} (hx : l[i]? = some x) : ∀ k, i < k → (i : Int) ≤ pos l x k
  | 0, h => by omega
  | k + 1, h => by
    simp only [pos]
    split
    · omega
    · rename_i hne
      rcases Nat.lt_or_ge i k with h2 | h2
      · exact pos_ge hx k h2
      · obtain rfl : i = k := by omega
        exact absurd hx hne
theorem pos_mem {l : List Int} {x : Int} : ∀ k, pos l x k = -1 ↔ x ∉ l.take k
  | 0 => by simp [pos]
  | k + 1 => by
    have ih := pos_mem (l := l) (x := x) k
    simp only [pos]
    rw [List.take_add_one, List.mem_append]
    split
    · rename_i h; rw [h]; simp <;> omega
    · rename_i h
      rw [ih]
      constructor
      · rintro h1 (h2 | h2)
        · exact h1 h2
        · cases hk : l[k]? with
          | none => rw [hk] at h2; simp at h2
          | some y => rw [hk] at h2 h; simp at h2; exact h (by rw [h2])
      · intro h1 h2; exact h1 (.inl h2)
theorem Apart.later {l : List Int} {n i j : Nat} {x : Int} (h : Apart l n n) (hj : j < n) (hi : l[i]? = some x) (hij : i < j) : l[j]? ≠ some x := by
  intro hx
  have a := (h j x hj hx).2.2
  have b := pos_ge hi j hij
  omega
theorem Apart.pos {l : List Int} {n i : Nat} {x : Int} (h : Apart l n n) (hi : l[i]? = some x) : ∀ k, i < k → k ≤ n → BackP.pos l x k = i
  | 0, h1, _ => by omega
  | k + 1, h1, h2 => by
    simp only [BackP.pos]
    by_cases hk : i = k
    · subst hk; rw [if_pos hi]
    · rw [if_neg (h.later (by omega) hi (by omega))]
      exact h.pos hi k (by omega) (by omega)
theorem bk_at {l : List Int} {n i q : Nat} (h : Apart l n n) (hi : l[i]? = some (q : Int)) (hin : i < n) : (bk l n n)[q]? = some (i : Int) := by
  have hq := (h i _ hin hi).2.1
  have := h.pos hi n hin (Nat.le_refl _)
  simp [bk, show q < n by omega, this]
theorem Apart.nodup {l : List Int} {n : Nat} (hl : l.length = n) (h : Apart l n n) : l.Nodup := by
  unfold List.Nodup
  rw [List.pairwise_iff_getElem]
  intro i j hi hj hij he
  have hx : l[i]? = some l[i] := List.getElem?_eq_getElem _
  exact h.later (by omega) hx hij (by rw [List.getElem?_eq_getElem hj, he])
theorem Apart.onto {l : List Int} {n : Nat} (hl : l.length = n) (h : Apart l n n) (q : Nat) (hq : q < n) : ∃ i, i < n ∧ l[i]? = some (q : Int) := by
  have hm : (q : Int) ∈ l := pig l ((List.range n).map Int.ofNat) (h.nodup hl) (fun x hx => by
    obtain ⟨i, hi⟩ := List.getElem?_of_mem hx
    have hin := (List.getElem?_eq_some_iff.1 hi).1
    obtain ⟨a, b, _⟩ := h i x (by omega) hi
    exact List.mem_map.2 ⟨x.toNat, by simp; omega, by simp; omega⟩) (by simp [hl]) _ (List.mem_map.2 ⟨q, by simpa using hq, rfl⟩)
  obtain ⟨i, hi⟩ := List.getElem?_of_mem hm
  exact ⟨i, by have := (List.getElem?_eq_some_iff.1 hi).1; omega, hi⟩
theorem bk_inv {l : List Int} {n q : Nat} {z : Int} (hl : l.length = n) (h : Apart l n n) (hq : q < n) (hz : (bk l n n)[q]? = some z) : ∃ i : Nat, i < n ∧ z = i ∧ l[i]? = some (q : Int) := by
  obtain ⟨i, hi, hli⟩ := h.onto hl q hq
  have := bk_at h hli hi
  rw [hz] at this
  exact ⟨i, hi, Option.some.inj this, hli⟩
theorem Apart.back {l : List Int} {n : Nat} (hl : l.length = n) (h : Apart l n n) : Apart (bk l n n) n n := by
  intro j x hj hx
  obtain ⟨i, hin, rfl, hli⟩ := bk_inv hl h hj hx
  refine ⟨by omega, by omega, (pos_mem j).2 fun hm => ?_⟩
  obtain ⟨q, hq⟩ := List.getElem?_of_mem hm
  rw [List.getElem?_take] at hq
  split at hq
  · rename_i hqj
    obtain ⟨i', hi', he, hli'⟩ := bk_inv hl h (show q < n by omega) hq
    have : i = i' := by omega
    subst this
    rw [hli] at hli'
    have := Option.some.inj hli'
    omega
  · cases hq
theorem bk_bk {l : List Int} {n : Nat} (hl : l.length = n) (h : Apart l n n) : bk (bk l n n) n n = l := by
  apply List.ext_getElem?
  intro i
  by_cases hi : i < n
  · have hx : l[i]? = some (l[i]'(by omega)) := List.getElem?_eq_getElem _
    generalize l[i]'(by omega) = x at hx
    obtain ⟨a, b, _⟩ := h i x hi hx
    obtain ⟨q, rfl⟩ := Int.eq_ofNat_of_zero_le a
    rw [hx]
    exact bk_at (h.back hl) (bk_at h hx hi) (by omega)
  · rw [List.getElem?_eq_none (by rw [bk_length]; omega), List.getElem?_eq_none (by omega)]
end Go.Proofs.Ytalecppofemcnaa.BackP
