/-
  Parking, plainly: what one floor of a span costs least, the tables, the best number, the floors.
-/
import Derived.Test.YtalecppofemcnaaBase
namespace Go.Proofs.Ytalecppofemcnaa.ParkP
set_option linter.unusedVariables false
/-- the weight of a floor -/
def wt (l : List Int) (i : Nat) : Int := l.getD i 0
/-- how far two floors are apart -/
def far (i f : Int) : Int := max (i - f) (f - i)
/-- what it costs to stand at f, for the first k floors from a on -/
def oc (l : List Int) (a f : Nat) : Nat → Int
  | 0 => 0
  | k + 1 => oc l a f k + wt l (a + k) * far ((a + k : Nat) : Int) f
/-- the first best of the first j floors of the span from a to b, and its cost -/
def og (l : List Int) (a b : Nat) : Nat → Nat × Int
  | 0 => (a, -1)
  | j + 1 => if (og l a b j).2 < 0 ∨ oc l a (a + j) (b - a) < (og l a b j).2 then (a + j, oc l a (a + j) (b - a)) else og l a b j
def one (l : List Int) (a b : Nat) : Nat × Int := og l a b (b - a)
/-- the best of the first m ways to end at n, behind a row of costs -/
def tm (l : List Int) (b : Nat → Int) (n : Nat) : Nat → Int × Nat
  | 0 => (-1, 0)
  | m + 1 => if b (n - (m + 1)) < 0 then tm l b n m else if (tm l b n m).1 < 0 ∨ b (n - (m + 1)) + (one l (n - (m + 1)) n).2 < (tm l b n m).1 then (b (n - (m + 1)) + (one l (n - (m + 1)) n).2, m + 1) else tm l b n m
/-- the table of costs -/
def tc (l : List Int) : Nat → Nat → Int
  | 0, n => if n = 0 then 0 else -1
  | c + 1, n => if n = 0 then 0 else (tm l (tc l c) n n).1
/-- the table of last steps -/
def tl (l : List Int) : Nat → Nat → Nat
  | 0, n => 0
  | c + 1, n => if n = 0 then 0 else (tm l (tc l c) n n).2
/-- the best number of the first c -/
def bst (l : List Int) (n : Nat) : Nat → Nat
  | 0 => 1
  | c + 1 => if 0 < c ∧ 0 ≤ tc l c n ∧ tc l c n < tc l (bst l n c) n then c else bst l n c
/-- the floors, from the last on -/
def reco (l : List Int) : Nat → Nat → List Int
  | 0, n => []
  | c + 1, n => reco l c (n - tl l (c + 1) n) ++ [((one l (n - tl l (c + 1) n) n).1 : Int)]
def okP (l : List Int) : Bool := decide (0 < l.length ∧ l.length ≤ 128 ∧ ∀ x ∈ l, 0 ≤ x ∧ x ≤ 1048576)
theorem okP_yes {l : List Int} (h : okP l = true) : 0 < l.length ∧ l.length ≤ 128 ∧ ∀ x ∈ l, 0 ≤ x ∧ x ≤ 1048576 := by simpa [okP] using h
theorem okP_no {l : List Int} (h : ¬ (0 < l.length ∧ l.length ≤ 128 ∧ ∀ x ∈ l, 0 ≤ x ∧ x ≤ 1048576)) : okP l = false := by simpa [okP] using h
theorem okP_mk {l : List Int} (h : 0 < l.length ∧ l.length ≤ 128 ∧ ∀ x ∈ l, 0 ≤ x ∧ x ≤ 1048576) : okP l = true := by simpa [okP] using h
theorem wt_get {l : List Int} {i : Nat} {x : Int} (h : l[i]? = some x) : wt l i = x := by simp [wt, h]
theorem okP_wt {l : List Int} (h : okP l = true) (i : Nat) : 0 ≤ wt l i ∧ wt l i ≤ 1048576 := by
  have := (okP_yes h).2.2
  rcases Nat.lt_or_ge i l.length with hl | hl
  · rw [wt_get (List.getElem?_eq_getElem hl)]; exact this _ (List.getElem_mem hl)
  · simp [wt, List.getElem?_eq_none hl]
theorem mul_in {x y : Int} (h0 : 0 ≤ x) (h1 : x ≤ 1048576) (h2 : 0 ≤ y) (h3 : y ≤ 128) : 0 ≤ x * y ∧ x * y ≤ 134217728 := by
  have a := Int.mul_nonneg h0 h2
  have b : x * y ≤ 1048576 * y := Int.mul_le_mul_of_nonneg_right h1 h2
  omega
theorem oc_range {l : List Int} (h : okP l = true) (a f : Nat) (hf : f ≤ 128) : ∀ k, a + k ≤ 128 → 0 ≤ oc l a f k ∧ oc l a f k ≤ k * 134217728
  | 0, _ => by simp [oc]
  | k + 1, hk => by
    have ih := oc_range h a f hf k (by omega)
    obtain ⟨x0, x1⟩ := okP_wt h (a + k)
    obtain ⟨m0, m1⟩ := mul_in x0 x1 (y := far ((a + k : Nat) : Int) f) (by unfold far; omega) (by unfold far; omega)
    simp only [oc]; omega
theorem og_range {l : List Int} (h : okP l = true) (a b : Nat) (hb : b ≤ 128) (hab : a ≤ b) : ∀ j, a + j ≤ b → a ≤ (og l a b j).1 ∧ (og l a b j).1 ≤ 128 ∧ -1 ≤ (og l a b j).2 ∧ (og l a b j).2 ≤ 17179869184 ∧ (0 < j → 0 ≤ (og l a b j).2 ∧ (og l a b j).1 < b)
  | 0, _ => by simp [og]; omega
  | j + 1, hj => by
    obtain ⟨i1, i2, i3, i4, i5⟩ := og_range h a b hb hab j (by omega)
    have := oc_range h a (a + j) (by omega) (b - a) (by omega)
    have hk : ((b - a : Nat) : Int) * 134217728 ≤ 17179869184 := by omega
    simp only [og]
    split
    · simp only []; omega
    · rename_i hn
      have : ¬ (og l a b j).2 < 0 := fun h => hn (.inl h)
      refine ⟨i1, i2, i3, i4, fun _ => ⟨by omega, ?_⟩⟩
      rcases Nat.eq_zero_or_pos j with h0 | h0
      · subst h0; simp [og] at this
      · exact (i5 h0).2
end Go.Proofs.Ytalecppofemcnaa.ParkP
