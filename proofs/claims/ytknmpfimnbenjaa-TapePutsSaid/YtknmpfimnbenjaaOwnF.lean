/-
  Rows of the call's own: a cell of an element set; a cell read.
-/
import Derived.Test.YtknmpfimnbenjaaOwn
namespace Go.Proofs.Ytknmpfimnbenjaa.HB
open Go.RowKit
/-- a cell of an element is set -/
theorem flat_setG {α : Type} {f : α → List Value} {sz : Nat} (hf : ∀ x, (f x).length = sz) {x x' : α} {j : Nat} {u : Value} (hx : f x' = (f x).set j u) (hj : j < sz) : ∀ (L : List α) (z : Nat), L[z]? = some x → (L.flatMap f).set (z * sz + j) u = (L.set z x').flatMap f
  | [], z, h => by simp at h
  | y :: L, 0, h => by
    simp at h; subst h
    rw [Nat.zero_mul, Nat.zero_add, List.flatMap_cons, List.set_cons_zero, List.flatMap_cons, hx, List.set_append_left _ _ (by rw [hf]; exact hj)]
  | y :: L, z + 1, h => by
    rw [List.getElem?_cons_succ] at h
    rw [List.flatMap_cons, List.set_cons_succ, List.flatMap_cons, List.set_append_right _ _ (by rw [hf, Nat.succ_mul]; omega), hf, show (z + 1) * sz + j - sz = z * sz + j by rw [Nat.succ_mul]; omega, flat_setG hf hx hj L z h]
/-- a field of an element is stored -/
theorem Own.storeF {α : Type} {f : α → List Value} {base sz : Nat} {w : World} {e : TypeId} {g n c : Nat} {L : List α} (hf : ∀ x, (f x).length = sz) (h : Own w base e sz f (.slice (some ⟨g, 0, none⟩) n c) L) (hl : L.length = n) {z j : Nat} {x x' : α} {u : Value} (hz : L[z]? = some x) (hx : f x' = (f x).set j u) (hj : j < sz) :
    Own (w.setCell ⟨g, z * sz + j, none⟩ u) base e sz f (.slice (some ⟨g, 0, none⟩) n c) (L.set z x') ∧ Below base w (w.setCell ⟨g, z * sz + j, none⟩ u) := by
  subst hl
  have h1 := World.ownsRow.stored h.row (z * sz + j) u
  refine ⟨?_, (Below.refl _ _).setCell (h.row.lt g rfl).1 _⟩
  show World.ownsRow _ base e sz _ (L.set z x').length ((L.set z x').flatMap f)
  rw [List.length_set, ← flat_setG hf hx hj L z hz]
  exact h1.1
/-- a cell of an element, and its mark -/
theorem Own.elem_cell {α : Type} {f : α → List Value} {base sz : Nat} {w : World} {e : TypeId} {g n c : Nat} {L : List α} (hf : ∀ x, (f x).length = sz) (h : Own w base e sz f (.slice (some ⟨g, 0, none⟩) n c) L) (hl : L.length = n) {z j : Nat} {x : α} {u : Value} (hz : L[z]? = some x) (hj : j < sz) (hu : (f x)[j]? = some u) :
    w.cell? ⟨g, z * sz + j, none⟩ = some u ∧ w.frozen? ⟨g, z * sz + j, none⟩ = false := by
  subst hl
  have hzl : z < L.length := (List.getElem?_eq_some_iff.1 hz).1
  have hlt : z * sz + j < L.length * sz := by
    have : (z + 1) * sz ≤ L.length * sz := Nat.mul_le_mul_right _ hzl
    rw [Nat.succ_mul] at this; omega
  refine ⟨?_, World.ownsRow.frozenAt h.row _⟩
  rw [World.ownsRow.cellAt h.row _ hlt, flat_get hf L z j _ hz hj]; exact hu
end Go.Proofs.Ytknmpfimnbenjaa.HB
