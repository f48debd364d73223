/-
  Worlds that are alike but for two blocks; rows of the call's own elsewhere; rows of bools; an append, and where the new row lies.
-/
import Derived.Test.YtkgkilogjodccaaOwn
import Derived.Test.YtkgkilogjodccaaOwnF
import Derived.Deep.AppendLies
namespace Go.Proofs.Ytkgkilogjodccaa.HB
open Go.RowKit
set_option linter.unusedVariables false
set_option linter.unusedSimpArgs false
/-- but for two blocks, the world is as it was, or has grown -/
structure Only (p g : Nat) (w w' : World) : Prop where
  os : w'.os = w.os
  tape : w'.tape = w.tape
  output : w'.output = w.output
  size : w.heap.size ≤ w'.heap.size
  block : ∀ k, k < w.heap.size → k ≠ p → k ≠ g → w'.heap[k]? = w.heap[k]?
section
variable {p g g' B : Nat} {w w1 w' : World}
theorem Only.refl (p g : Nat) (w : World) : Only p g w w := ⟨rfl, rfl, rfl, Nat.le_refl _, fun _ _ _ _ => rfl⟩
theorem Only.trans (h : Only p g w w1) (k : Only p g w1 w') : Only p g w w' :=
  ⟨k.os.trans h.os, k.tape.trans h.tape, k.output.trans h.output, Nat.le_trans h.size k.size, fun i hi h1 h2 => (k.block i (by have := h.size; omega) h1 h2).trans (h.block i hi h1 h2)⟩
theorem Only.of_below (h : Below w.heap.size w w') : Only p g w w' := ⟨h.os, h.tape, h.output, h.size, fun k hk _ _ => h.block k hk⟩
theorem Only.drew (h : Only p g w w') : Only p g w w'.drew := h.trans (Only.of_below (Below.refl _ _).drew)
theorem Only.set (h : Only p g w w') {a : Addr} (ha : a.block = p ∨ a.block = g) (u : Value) : Only p g w (w'.setCell a u) := by
  refine ⟨h.os, h.tape, h.output, by have := h.size; simpa using this, fun k hk h1 h2 => ?_⟩
  rw [Below.heap_setCell _ _ _ _ (by rcases ha with ha | ha <;> omega)]
  exact h.block k hk h1 h2
theorem Only.below (h : Only p g w w') (h1 : B ≤ p) (h2 : B ≤ g) (h3 : B ≤ w.heap.size) : Below B w w' :=
  ⟨h.os, h.tape, h.output, h.size, fun k hk => h.block k (by omega) (by omega) (by omega)⟩
theorem Own.other {α : Type} {f : α → List Value} {base sz : Nat} {e : TypeId} {v : Value} {l : List α} (h : Own w base e sz f v l) (hb : ∀ b n c, v = .slice (some ⟨b, 0, none⟩) n c → w'.heap[b]? = w.heap[b]?) : Own w' base e sz f v l := by
  refine ⟨h.1, ?_⟩
  rcases h.2 with h2 | ⟨b, cap, cur, hv, h3, h4, rest⟩
  · exact .inl h2
  · exact .inr ⟨b, cap, cur, hv, h3, by rw [hb _ _ _ hv]; exact h4, rest⟩
theorem Own.only {α : Type} {f : α → List Value} {base sz p g : Nat} {e : TypeId} {v : Value} {l : List α} {w w' : World} (h : Own w base e sz f v l) (ho : Only p g w w') (h1 : ∀ k, v.ownBlock = some k → k ≠ p ∧ k ≠ g) : Own w' base e sz f v l := by
  refine h.other fun b n c hv => ?_
  subst hv
  have := h1 b rfl
  exact ho.block b (h.row.lt b rfl).2 this.1 this.2
theorem Own.setOther {α : Type} {f : α → List Value} {base sz : Nat} {e : TypeId} {g n c : Nat} {l : List α} (h : Own w base e sz f (.slice (some ⟨g, 0, none⟩) n c) l) {a : Addr} (ha : a.block ≠ g) (u : Value) : Own (w.setCell a u) base e sz f (.slice (some ⟨g, 0, none⟩) n c) l := by
  refine h.other fun b n c hv => ?_
  simp only [Value.slice.injEq, Option.some.injEq, Addr.mk.injEq, and_true] at hv
  obtain ⟨rfl, _⟩ := hv
  exact Below.heap_setCell _ _ _ _ (fun e => ha e.symm)
theorem Own.grown {α : Type} {f : α → List Value} {base sz : Nat} {e : TypeId} {v : Value} {l : List α} {w w' : World} {row : Option Nat} (h : Own w base e sz f v l) (hg : w.grownBy w' row) (hne : v.ownBlock = none ∨ v.ownBlock ≠ row) : Own w' base e sz f v l := World.ownsRow.kept h hg hne
end
/-- the cells of a bool -/
abbrev bl : Bool → List Value := fun b => [Value.bool b]
theorem bl_map : ∀ l : List Bool, l.flatMap bl = l.map Value.bool
  | [] => rfl
  | b :: l => by rw [List.flatMap_cons, bl_map l]; rfl
theorem Own.madeB {base : Nat} (w : World) (e : TypeId) (n : Nat) (hb : base ≤ w.heap.size) (hn : n ≤ 1000000000) :
    Own (w.alloc (.cells (madeCells #[.bool false] n) e)) base e 1 bl (.slice (some ⟨w.heap.size, 0, none⟩) n n) (List.replicate n false) := by
  have h := Own.block (base := base) (f := bl) (sz := 1) w e (madeCells #[.bool false] n) (List.replicate n false) hb (by
    rw [bl_map]
    apply List.ext_getElem?
    intro i
    by_cases hi : i < n
    · simp [madeCells, hi, Nat.mod_one]
    · simp [madeCells, hi]) (fun _ => rfl) (by simpa using hn)
  simpa using h
theorem Own.storeB {base : Nat} {w : World} {e : TypeId} {g n c : Nat} {l : List Bool} (h : Own w base e 1 bl (.slice (some ⟨g, 0, none⟩) n c) l) (hl : l.length = n) {j : Nat} (hj : j < n) (y : Bool) :
    Own (w.setCell ⟨g, j, none⟩ (.bool y)) base e 1 bl (.slice (some ⟨g, 0, none⟩) n c) (l.set j y) := by
  have hg : l[j]? = some (l[j]'(by omega)) := List.getElem?_eq_getElem _
  have := (Own.storeF (f := bl) (sz := 1) (fun _ => rfl) h hl hg (j := 0) (x' := y) (u := .bool y) rfl (by omega)).1
  simpa using this
theorem Own.bool_at {base : Nat} {w : World} {e : TypeId} {g n c : Nat} {l : List Bool} (h : Own w base e 1 bl (.slice (some ⟨g, 0, none⟩) n c) l) (hl : l.length = n) {j : Nat} (hj : j < n) :
    ∃ b, l[j]? = some b ∧ w.cell? ⟨g, j, none⟩ = some (.bool b) ∧ w.frozen? ⟨g, j, none⟩ = false := by
  have hg : l[j]? = some (l[j]'(by omega)) := List.getElem?_eq_getElem _
  have := Own.elem_cell (f := bl) (sz := 1) (fun _ => rfl) h hl hg (j := 0) (by omega) rfl
  exact ⟨_, hg, by simpa using this.1, by simpa using this.2⟩
/-- 'out = append(out, x)': where the new row lies, too -/
theorem pushG {P : Program} {α : Type} {w : World} {base : Nat} {e : TypeId} {sz : Nat} {f : α → List Value} {v : Value} {l : List α} {ops : Array Oper} {rest : List Oper} {o : Oper} {a : Act} {Q : Exit → Act → World → Prop} (hgd : o.guard = none) (s x : Operand) (t : TypeId)
    (ho : o.op = .call { callee := .builtin .append, args := #[s, x], argTypes := #[t, t] })
    {z : Value} {bytes : Nat} (ht : P.underlying t = some (.slice e)) (hinfo : (P.info? e).map (fun i => (i.zero, i.size, i.bytes)) = some (some z, sz, bytes)) (hzs : z.cells.size = sz) (hsz : 0 < sz) (hby : bytes ≤ 1000)
    (hs : a.eval s = v) (hown : Own w base e sz f v l) (y : α) (ad : Addr) (c : Nat) (hx : a.eval x = .slice (some ad) 1 c) (hl : (f y).length = sz)
    (hc : ∀ j u, (f y)[j]? = some u → w.cell? (ad.add j) = some u) (h1 : ∀ u ∈ f y, u.oneCell' = true)
    (hn : l.length ≤ 1000000000) (hbase : base ≤ w.heap.size)
    (h : ∀ g cap w', Own w' base e sz f (.slice (some ⟨g, 0, none⟩) (l.length + 1) cap) (l ++ [y]) → w.grownBy w' v.ownBlock → (v.ownBlock = some g ∨ g = w.heap.size) → g < w'.heap.size → wpList P ops Q rest (a.put o.dst (.slice (some ⟨g, 0, none⟩) (l.length + 1) cap)) w') : wpList P ops Q (o :: rest) a w := by
  obtain ⟨i, hi, hz, hzz, hbb⟩ := info_parts hinfo
  refine wpList_append_lies w hgd s x t ho base e i z sz bytes ht hi hz hzz hbb hzs hsz v l.length (l.flatMap f) hs hown.row ad 1 c (f y) hx (by rw [hl, Nat.one_mul]) hc h1 (by omega) (by simp only [maxLen]; omega)
    (Nat.le_trans (Nat.mul_le_mul_left _ hby) (by omega)) hbase _ rfl (fun g cap w' k1 k2 k3 k4 => h g cap w' ?_ k2 k3 k4)
  show w'.ownsRow base e sz _ (l ++ [y]).length ((l ++ [y]).flatMap f)
  simpa using k1
end Go.Proofs.Ytkgkilogjodccaa.HB
