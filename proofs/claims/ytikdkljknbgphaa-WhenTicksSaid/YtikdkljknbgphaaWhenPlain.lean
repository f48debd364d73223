/- Segments, plainly: how many ticks the first ones have; which one there is at a tick. -/
namespace Go.Proofs.Ytikdkljknbgphaa.WhenP
abbrev Seg := Int × Int × Int
/-- a segment's ticks, cut -/
def tk (g : Seg) : Int := min (max g.2.1 0) 1048576
theorem tk_range (g : Seg) : 0 ≤ tk g ∧ tk g ≤ 1048576 := by unfold tk; omega
/-- the ticks of some, together -/
def tot : List Seg → Int
  | [] => 0
  | g :: l => tk g + tot l
theorem tot_append : ∀ (l m : List Seg), tot (l ++ m) = tot l + tot m
  | [], m => by simp [tot]
  | g :: l, m => by simp [tot, tot_append l m, Int.add_assoc]
theorem tot_range : ∀ (l : List Seg), 0 ≤ tot l ∧ tot l ≤ 1048576 * l.length
  | [] => by simp [tot]
  | g :: l => by have h := tot_range l; have k := tk_range g; simp only [tot, List.length_cons]; omega
/-- of the first k -/
def upto (l : List Seg) (k : Nat) : Int := tot (l.take k)
theorem upto_zero (l : List Seg) : upto l 0 = 0 := rfl
theorem upto_all (l : List Seg) (k : Nat) (h : l.length ≤ k) : upto l k = tot l := by unfold upto; rw [List.take_of_length_le h]
theorem upto_succ {l : List Seg} {k : Nat} {g : Seg} (h : l[k]? = some g) : upto l (k + 1) = upto l k + tk g := by
  unfold upto; rw [List.take_add_one, h, tot_append]; simp [tot]
theorem upto_range (l : List Seg) (k : Nat) : 0 ≤ upto l k ∧ upto l k ≤ 1048576 * l.length := by
  have h := tot_range (l.take k)
  have : (l.take k).length ≤ l.length := by rw [List.length_take]; omega
  unfold upto; omega
theorem upto_mono (l : List Seg) (j : Nat) : ∀ d : Nat, upto l j ≤ upto l (j + d)
  | 0 => Int.le_refl _
  | d + 1 => by
    have h := upto_mono l j d
    rcases Nat.lt_or_ge (j + d) l.length with hl | hl
    · have e := upto_succ (k := j + d) (List.getElem?_eq_getElem hl)
      have := tk_range l[j + d]
      rw [← Nat.add_assoc, e]; omega
    · rw [upto_all l (j + (d + 1)) (by omega), ← upto_all l (j + d) hl]; exact h
/-- What 'which segment there is at a tick' means, of the first n. -/
def At (l : List Seg) (n : Nat) (tick : Int) (j : Int) (ok : Bool) : Prop :=
  (ok = true ∧ ∃ i : Nat, i < n ∧ j = i ∧ upto l i ≤ tick ∧ tick < upto l (i + 1)) ∨ (ok = false ∧ j = 0 ∧ (tick < 0 ∨ upto l n ≤ tick))
theorem At.one {l : List Seg} {n : Nat} {tick j j' : Int} {ok ok' : Bool} (h : At l n tick j ok) (h' : At l n tick j' ok') : j = j' ∧ ok = ok' := by
  have mono : ∀ a b : Nat, a ≤ b → upto l a ≤ upto l b := fun a b hab => by
    have := upto_mono l a (b - a); rwa [Nat.add_sub_cancel' hab] at this
  rcases h with ⟨rfl, i, hi, rfl, h1, h2⟩ | ⟨rfl, rfl, h1⟩ <;> rcases h' with ⟨rfl, i', hi', rfl, h1', h2'⟩ | ⟨rfl, rfl, h1'⟩
  · refine ⟨?_, rfl⟩
    rcases Nat.lt_trichotomy i i' with hlt | rfl | hlt
    · have := mono (i + 1) i' hlt; omega
    · rfl
    · have := mono (i' + 1) i hlt; omega
  · have := mono (i + 1) n hi
    have := (upto_range l i).1
    omega
  · have := mono (i' + 1) n hi'
    have := (upto_range l i').1
    omega
  · exact ⟨rfl, rfl⟩
end Go.Proofs.Ytikdkljknbgphaa.WhenP
