/-
  Rows of the call's own: a slice that the call made reads as a list; one element is appended; a slice with any source is appended; stores.
-/
import Derived.Test.YtknmpfimnbenjaaBase
namespace Go.Proofs.Ytknmpfimnbenjaa.HB
open Go.RowKit

/-- The slice value v is the call's own (in a block from 'base' on, or nil) and reads as the list l, each element as the cells 'f x'. -/
def Own {α : Type} (w : World) (base : Nat) (e : TypeId) (sz : Nat) (f : α → List Value) (v : Value) (l : List α) : Prop := w.ownsRow base e sz v l.length (l.flatMap f)

section
variable {α : Type} {w w' : World} {base : Nat} {e : TypeId} {sz : Nat} {f : α → List Value} {v : Value} {l : List α}
theorem Own.nil (w : World) (base : Nat) (e : TypeId) (sz : Nat) (f : α → List Value) : Own w base e sz f (.slice none 0 0) [] := World.ownsRow_nil w base e sz
theorem Own.row (h : Own w base e sz f v l) : w.ownsRow base e sz v l.length (l.flatMap f) := h
theorem Own.drew (h : Own w base e sz f v l) : Own w.drew base e sz f v l := h
theorem Own.drewN (h : Own w base e sz f v l) (k : Nat) : Own (w.drewN k) base e sz f v l := h
theorem Own.alloc (h : Own w base e sz f v l) (o : Obj) : Own (w.alloc o) base e sz f v l := World.ownsRow.alloc h o
theorem Own.below (h : Own w base e sz f v l) (hb : Below w.heap.size w w') : Own w' base e sz f v l :=
  World.ownsRow.kept (row := none) h ⟨hb.os, hb.tape, hb.output, hb.size, fun k hk _ => hb.block k hk⟩ (by cases hv : v.ownBlock <;> simp)
/-- As an argument. -/
theorem Own.shape (h : Own w base e sz f v l) : ∃ (A : Option Addr) (c : Nat), v = .slice A l.length c ∧ l.length ≤ c ∧ Rd w w.heap.size sz A l.length (l.flatMap f) := by
  rcases h.2 with ⟨hv, h0⟩ | ⟨g, cap, cur, hv, hb, hg, hnc, hcm, hcs, ht⟩
  · refine ⟨none, 0, by rw [hv, h0], by omega, h.1, fun hn => by omega⟩
  · refine ⟨some ⟨g, 0, none⟩, cap, hv, hnc, ?_⟩
    subst hv
    exact Rd.own h.row
theorem Own.small {B : Nat} (h : Own w base e sz f v l) (hB : B ≤ base) : Own w B e sz f v l := by
  rcases h with ⟨h1, h2⟩
  refine ⟨h1, ?_⟩
  rcases h2 with h2 | ⟨g, cap, cur, hv, hb, rest⟩
  · exact .inl h2
  · exact .inr ⟨g, cap, cur, hv, Nat.le_trans hB hb, rest⟩
theorem Own.setBelow (h : Own w base e sz f v l) {p : Addr} (hp : p.block < base) (u : Value) : Own (w.setCell p u) base e sz f v l := ownsRow_setCell_below h hp u
/-- The place of a row that is not empty. -/
theorem Own.at_ (h : Own w base e sz f v l) (hn : 0 < l.length) : ∃ g cap, v = .slice (some ⟨g, 0, none⟩) l.length cap ∧ base ≤ g ∧ g < w.heap.size ∧ l.length ≤ cap ∧
    (∀ j u, (l.flatMap f)[j]? = some u → w.cell? ⟨g, j, none⟩ = some u) ∧ (∀ j, w.frozen? ⟨g, j, none⟩ = false) := by
  rcases h.2 with ⟨hv, h0⟩ | ⟨g, cap, cur, hv, hb, hg, hnc, hcm, hcs, ht⟩
  · omega
  · subst hv
    refine ⟨g, cap, rfl, hb, (Array.getElem?_eq_some_iff.1 hg).1, hnc, fun j u hu => ?_, fun j => World.ownsRow.frozenAt h.row j⟩
    have hj : j < l.length * sz := by have := (List.getElem?_eq_some_iff.1 hu).1; rw [h.1] at this; exact this
    rw [World.ownsRow.cellAt h.row j hj]; exact hu
end

section
variable {P : Program} {α : Type} {w : World} {base : Nat} {e : TypeId} {sz : Nat} {f : α → List Value} {v : Value} {l : List α}
/-- 'out = append(out, x)': the element lies at 'ad' (the translation lays it in a block of its own first). -/
theorem push {ops : Array Oper} {rest : List Oper} {o : Oper} {a : Act} {Q : Exit → Act → World → Prop} (hgd : o.guard = none) (s x : Operand) (t : TypeId)
    (ho : o.op = .call { callee := .builtin .append, args := #[s, x], argTypes := #[t, t] })
    {z : Value} {bytes : Nat} (ht : P.underlying t = some (.slice e)) (hinfo : (P.info? e).map (fun i => (i.zero, i.size, i.bytes)) = some (some z, sz, bytes)) (hzs : z.cells.size = sz) (hsz : 0 < sz) (hby : bytes ≤ 1000)
    (hs : a.eval s = v) (hown : Own w base e sz f v l) (y : α) (ad : Addr) (c : Nat) (hx : a.eval x = .slice (some ad) 1 c) (hl : (f y).length = sz)
    (hc : ∀ j u, (f y)[j]? = some u → w.cell? (ad.add j) = some u) (h1 : ∀ u ∈ f y, u.oneCell' = true)
    (hn : l.length ≤ 1000000000) (hbase : base ≤ w.heap.size)
    (h : ∀ v' w', Own w' base e sz f v' (l ++ [y]) → Below base w w' → wpList P ops Q rest (a.put o.dst v') w') : wpList P ops Q (o :: rest) a w := by
  obtain ⟨i, hi, hz, hzz, hbb⟩ := info_parts hinfo
  refine wpList_append_own w hgd s x t ho base e i z sz bytes ht hi hz hzz hbb hzs hsz v l.length (l.flatMap f) hs hown.row ad 1 c (f y) hx (by rw [hl, Nat.one_mul]) hc h1 (by simp only [maxLen]; omega)
    (Nat.le_trans (Nat.mul_le_mul_left _ hby) (by omega)) hbase (fun v' w' k1 k2 _ => h v' w' ?_ ((Below.refl base w).grown k2 hbase (fun k hk => (hown.row.lt k hk).1)))
  show w'.ownsRow base e sz v' (l ++ [y]).length ((l ++ [y]).flatMap f)
  simpa using k1
/-- 'append(out, xs...)', the source nil, empty or not. -/
theorem pushAll {ops : Array Oper} {rest : List Oper} {o : Oper} {a : Act} {Q : Exit → Act → World → Prop} (hgd : o.guard = none) (s x : Operand) (t : TypeId)
    (ho : o.op = .call { callee := .builtin .append, args := #[s, x], argTypes := #[t, t] })
    {z : Value} {bytes : Nat} (ht : P.underlying t = some (.slice e)) (hinfo : (P.info? e).map (fun i => (i.zero, i.size, i.bytes)) = some (some z, sz, bytes)) (hzs : z.cells.size = sz) (hsz : 0 < sz) (hby : bytes ≤ 1000)
    (hs : a.eval s = v) (hown : Own w base e sz f v l) (ys : List α) (B : Nat) (A : Option Addr) (m c : Nat) (hx : a.eval x = .slice A m c) (hm : ys.length = m)
    (hr : Rd w B sz A m (ys.flatMap f)) (h1 : ∀ u ∈ ys.flatMap f, u.oneCell' = true)
    (hn : l.length ≤ 1000000000) (hm1 : m ≤ 1000000000) (hbase : base ≤ w.heap.size)
    (h : ∀ v' w', Own w' base e sz f v' (l ++ ys) → Below base w w' → wpList P ops Q rest (a.put o.dst v') w') : wpList P ops Q (o :: rest) a w := by
  obtain ⟨i, hi, hz, hzz, hbb⟩ := info_parts hinfo
  subst hm
  rcases A with _ | ad
  · have hm0 : ys = [] := by
      rcases Nat.eq_zero_or_pos ys.length with h0 | h0
      · exact List.eq_nil_of_length_eq_zero h0
      · obtain ⟨b, off, hA, _⟩ := hr.2 h0
        cases hA
    subst hm0
    refine wpList_plain hgd fun K hK => ?_
    unfold Oper.wp execOp
    simp only [ho, resolve, invoke, builtin, Sem.run_bind, Sem.run_pure, Result.andThen_ok, List.map_toArray, List.map_cons, List.map_nil, hs, hx]
    have hrun : (Builtin.append_ #[t, t] o.type #[v, .slice none 0 c]).run P w = .ok v w := by
      rcases hown.2 with ⟨hv, h0⟩ | ⟨g, cap, cur, hv, _, _, hnc, _⟩
      · rw [hv]; simp [Builtin.append_, run_underlying ht, sizeOf, typeInfo, hi, Builtin.lenOf, Builtin.firstCells]
      · rw [hv]; simp [Builtin.append_, run_underlying ht, sizeOf, typeInfo, hi, Builtin.lenOf, Builtin.firstCells, hnc, storeCells]
    simp only [List.length_nil, hrun]
    exact hK _ _ (h v w (by simpa using hown) (Below.refl _ _))
  · have hcells : ∀ j u, (ys.flatMap f)[j]? = some u → w.cell? (ad.add j) = some u := by
      intro j u hu
      rcases Nat.eq_zero_or_pos ys.length with h0 | h0
      · have : ys = [] := List.eq_nil_of_length_eq_zero h0
        subst this; simp at hu
      · obtain ⟨b, off, hA, _, hc⟩ := hr.2 h0
        injection hA with hA
        subst hA
        have := hc j u hu
        unfold Addr.add
        split
        · rename_i hj; subst hj; exact this
        · exact this
    refine wpList_append_own w hgd s x t ho base e i z sz bytes ht hi hz hzz hbb hzs hsz v l.length (l.flatMap f) hs hown.row ad ys.length c (ys.flatMap f) hx hr.1 hcells h1 (by simp only [maxLen]; omega)
      (Nat.le_trans (Nat.mul_le_mul_left _ hby) (by omega)) hbase (fun v' w' k1 k2 _ => h v' w' ?_ ((Below.refl base w).grown k2 hbase (fun k hk => (hown.row.lt k hk).1)))
    show w'.ownsRow base e sz v' (l ++ ys).length ((l ++ ys).flatMap f)
    simpa using k1
end
/-- A new block that reads as a list. -/
theorem Own.block {α : Type} {f : α → List Value} {base sz : Nat} (w : World) (e : TypeId) (cs : Array Value) (l : List α) (hb : base ≤ w.heap.size) (hl : cs.toList = l.flatMap f) (hf : ∀ x, (f x).length = sz) (hn : l.length ≤ 1000000000) :
    Own (w.alloc (.cells cs e)) base e sz f (.slice (some ⟨w.heap.size, 0, none⟩) l.length l.length) l := by
  have hs : cs.size = l.length * sz := by rw [← Array.length_toList, hl, flat_length hf]
  refine ⟨by rw [flat_length hf], .inr ⟨w.heap.size, l.length, cs, rfl, hb, heap_alloc_new w _, Nat.le_refl _, by simp only [maxLen]; omega, hs, ?_⟩⟩
  rw [← hs, ← hl, ← Array.length_toList, List.take_length]
/-- 'make([]T, n)', T an integer. -/
theorem Own.made {base : Nat} {k : IntKind} (w : World) (e : TypeId) (n : Nat) (hb : base ≤ w.heap.size) (hn : n ≤ 1000000000) :
    Own (w.alloc (.cells (madeCells #[.int k 0] n) e)) base e 1 (fun z => [Value.int k z]) (.slice (some ⟨w.heap.size, 0, none⟩) n n) (List.replicate n 0) := by
  have h := Own.block (base := base) (f := fun z => [Value.int k z]) (sz := 1) w e (madeCells #[.int k 0] n) (List.replicate n 0) hb (by
    rw [map_flat]
    apply List.ext_getElem?
    intro i
    by_cases hi : i < n
    · simp [madeCells, hi, Nat.mod_one]
    · simp [madeCells, hi]) (fun _ => rfl) (by simpa using hn)
  simpa using h
/-- An element is stored. -/
theorem Own.store {base : Nat} {k : IntKind} {w : World} {e : TypeId} {g n c : Nat} {l : List Int} (h : Own w base e 1 (fun z => [Value.int k z]) (.slice (some ⟨g, 0, none⟩) n c) l) (hl : l.length = n) (j : Nat) (y : Int) :
    Own (w.setCell ⟨g, j, none⟩ (.int k y)) base e 1 (fun z => [Value.int k z]) (.slice (some ⟨g, 0, none⟩) n c) (l.set j y) ∧ Below base w (w.setCell ⟨g, j, none⟩ (.int k y)) := by
  subst hl
  have h1 := World.ownsRow.stored h.row j (.int k y)
  refine ⟨?_, (Below.refl _ _).setCell (h.row.lt g rfl).1 _⟩
  show World.ownsRow _ base e 1 _ (l.set j y).length ((l.set j y).flatMap fun z => [Value.int k z])
  rw [map_flat, List.map_set, List.length_set, ← map_flat]
  exact h1.1
/-- An element's cell, and its mark. -/
theorem Own.int_at {base : Nat} {k : IntKind} {w : World} {e : TypeId} {g n c : Nat} {l : List Int} (h : Own w base e 1 (fun z => [Value.int k z]) (.slice (some ⟨g, 0, none⟩) n c) l) (hl : l.length = n) {j : Nat} (hj : j < n) :
    ∃ x, l[j]? = some x ∧ w.cell? ⟨g, j, none⟩ = some (.int k x) ∧ w.frozen? ⟨g, j, none⟩ = false := by
  subst hl
  have hg : l[j]? = some (l[j]) := List.getElem?_eq_getElem hj
  refine ⟨_, hg, ?_, World.ownsRow.frozenAt h.row j⟩
  rw [World.ownsRow.cellAt h.row j (by omega), map_flat, List.getElem?_map, hg]; rfl
/-- One number an element. -/
abbrev num (k : IntKind) : Int → List Value := fun z => [Value.int k z]
theorem Own.ints {w : World} {base : Nat} {e : TypeId} {k : IntKind} {v : Value} {l : List Int} (h : Own w base e 1 (num k) v l) :
    ∃ (A : Option Addr) (c : Nat), v = .slice A l.length c ∧ l.length ≤ c ∧ Rd w w.heap.size 1 A l.length (l.map (Value.int k)) := by
  obtain ⟨A, c, h1, h2, h3⟩ := h.shape
  rw [map_flat] at h3
  exact ⟨A, c, h1, h2, h3⟩
end Go.Proofs.Ytknmpfimnbenjaa.HB
