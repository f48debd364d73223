/- Tables that rise, plainly. -/
namespace Go.Proofs.Ytkgkilogjodccaa.TabP
set_option linter.unusedVariables false
def Rises (l : List Int) : Prop := ∀ (i : Nat) (a b : Int), l[i]? = some a → l[i + 1]? = some b → a ≤ b
theorem Rises.far {l : List Int} (h : Rises l) : ∀ (d i : Nat) (a b : Int), l[i]? = some a → l[i + d]? = some b → a ≤ b
  | 0, i, a, b, ha, hb => by rw [Nat.add_zero, ha] at hb; obtain rfl := Option.some.inj hb; exact Int.le_refl _
  | d + 1, i, a, b, ha, hb => by
    obtain ⟨c, hc⟩ : ∃ c, l[i + d]? = some c := by
      have := (List.getElem?_eq_some_iff.1 hb).1
      exact ⟨l[i + d]'(by omega), List.getElem?_eq_getElem _⟩
    exact Int.le_trans (h.far d i a c ha hc) (h (i + d) c b hc hb)
theorem Rises.le {l : List Int} (h : Rises l) {i j : Nat} {a b : Int} (hij : i ≤ j) (ha : l[i]? = some a) (hb : l[j]? = some b) : a ≤ b := by
  obtain ⟨d, rfl⟩ := Nat.exists_eq_add_of_le hij
  exact h.far d i a b ha hb
/-- is it a table? -/
noncomputable def right (l : List Int) : Bool := @decide (Rises l ∧ l[l.length - 1]? = some 4294967296) (Classical.propDecidable _)
theorem right_iff (l : List Int) : right l = true ↔ Rises l ∧ l[l.length - 1]? = some 4294967296 := by unfold right; simp
theorem right_fall {l : List Int} {i : Nat} {a b : Int} (ha : l[i]? = some a) (hb : l[i + 1]? = some b) (h : b < a) : right l = false := by
  rw [Bool.eq_false_iff]; intro hr
  have := ((right_iff l).1 hr).1 i a b ha hb
  omega
theorem right_last {l : List Int} {x : Int} (h : Rises l) (hx : l[l.length - 1]? = some x) : right l = (x == 4294967296) := by
  rw [Bool.eq_iff_iff, right_iff, beq_iff_eq]
  constructor
  · rintro ⟨_, h2⟩; rw [hx] at h2; exact Option.some.inj h2
  · rintro rfl; exact ⟨h, hx⟩
theorem right_none : right [] = false := by
  rw [Bool.eq_false_iff]; intro hr
  have := ((right_iff []).1 hr).2
  simp at this
/-- the first place above a word -/
def First (l : List Int) (x : Int) (k : Nat) : Prop := k ≤ l.length ∧ (∀ (i : Nat) (a : Int), i < k → l[i]? = some a → a ≤ x) ∧ (k < l.length → ∃ a, l[k]? = some a ∧ x < a)
theorem First.not_lt {l : List Int} {x : Int} {j k : Nat} (h : First l x j) (h' : First l x k) : ¬ j < k := by
  intro hlt
  obtain ⟨a, ha, hx⟩ := h.2.2 (by have := h'.1; omega)
  have := h'.2.1 j a hlt ha
  omega
theorem First.one {l : List Int} {x : Int} {j k : Nat} (h : First l x j) (h' : First l x k) : j = k := by
  have := h.not_lt h'; have := h'.not_lt h; omega
theorem First.ex : ∀ (l : List Int) (x : Int), ∃ k, First l x k
  | [], x => ⟨0, by simp, fun i a hi => by omega, fun h => by simp at h⟩
  | a :: l, x => by
    by_cases h : x < a
    · exact ⟨0, by simp, fun i a hi => by omega, fun _ => ⟨a, rfl, h⟩⟩
    · obtain ⟨k, h1, h2, h3⟩ := First.ex l x
      refine ⟨k + 1, by simp; omega, fun i b hi hb => ?_, fun hk => ?_⟩
      · cases i with
        | zero => simp at hb; omega
        | succ i => simp at hb; exact h2 i b (by omega) hb
      · obtain ⟨b, hb, hx⟩ := h3 (by simp at hk; omega)
        exact ⟨b, by simpa using hb, hx⟩
end Go.Proofs.Ytkgkilogjodccaa.TabP
