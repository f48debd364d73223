/-
  Slices of entries: how they read, a whole element stored; the walks of Less, the program's and the document's.
-/
import Derived.Test.YtknmpfimnbenjaaProg
import Derived.Test.YtknmpfimnbenjaaOwnF
import Derived.Test.YtknmpfimnbenjaaHeapPlain
namespace Go.Proofs.Ytknmpfimnbenjaa
open Go.RowKit HB HeapP
set_option linter.unusedVariables false
set_option linter.unusedSimpArgs false
namespace HB
/-- the cells of an entry -/
abbrev ent : En → List Value := fun p => [.int .i64 p.t, .int .i64 p.k, .int .i64 p.i]
theorem ent_len (p : En) : (ent p).length = 3 := rfl
theorem ent_new (w : World) (e : TypeId) (x y z : Value) (g : Nat) (hg : g = w.heap.size) : ∀ j u, [x, y, z][j]? = some u → (w.alloc (.cells #[x, y, z] e)).cell? ((⟨g, 0, none⟩ : Addr).add j) = some u := by
  subst hg
  intro j u hu
  have key : ∀ j, (w.alloc (.cells #[x, y, z] e)).cell? ⟨w.heap.size, j, none⟩ = [x, y, z][j]? := fun j => by
    rw [cell_of_row _ w.heap.size j #[x, y, z] e (0, 0) (heap_alloc_new w _)]; simp
  unfold Addr.add
  split
  · rename_i h; subst h; rw [key]; exact hu
  · rw [Nat.zero_add, key]; exact hu
/-- an element of a slice of entries -/
theorem Rd.ent_at {w : World} {B n : Nat} {A : Option Addr} {L : List En} (h : Rd w B 3 A n (L.flatMap ent)) (hl : L.length = n) {i : Nat} (hi : i < n) :
    ∃ b off x, A = some ⟨b, off, none⟩ ∧ b < B ∧ L[i]? = some x ∧ w.cell? ⟨b, off + i * 3, none⟩ = some (.int .i64 x.t) ∧ w.cell? ⟨b, off + i * 3 + 1, none⟩ = some (.int .i64 x.k) ∧ w.cell? ⟨b, off + i * 3 + 2, none⟩ = some (.int .i64 x.i) := by
  obtain ⟨b, off, x, hA, hb, hg, hc⟩ := h.elem_at ent_len hl hi
  exact ⟨b, off, x, hA, hb, hg, hc 0 _ (by omega) rfl, hc 1 _ (by omega) rfl, hc 2 _ (by omega) rfl⟩
/-- the cells of an element of a row of the call's own, and their marks -/
theorem Own.ent_at {base : Nat} {w : World} {e : TypeId} {g n c : Nat} {L : List En} (h : Own w base e 3 ent (.slice (some ⟨g, 0, none⟩) n c) L) (hl : L.length = n) {z : Nat} {x : En} (hz : L[z]? = some x) :
    w.cell? ⟨g, z * 3, none⟩ = some (.int .i64 x.t) ∧ w.cell? ⟨g, z * 3 + 1, none⟩ = some (.int .i64 x.k) ∧ w.cell? ⟨g, z * 3 + 2, none⟩ = some (.int .i64 x.i) ∧
      w.frozen? ⟨g, z * 3, none⟩ = false ∧ w.frozen? ⟨g, z * 3 + 1, none⟩ = false ∧ w.frozen? ⟨g, z * 3 + 2, none⟩ = false := by
  have c0 := h.elem_cell ent_len hl hz (j := 0) (by omega) rfl
  have c1 := h.elem_cell ent_len hl hz (j := 1) (by omega) rfl
  have c2 := h.elem_cell ent_len hl hz (j := 2) (by omega) rfl
  exact ⟨c0.1, c1.1, c2.1, c0.2, c1.2, c2.2⟩
/-- a whole element is stored -/
theorem Own.store_ent {base : Nat} {w : World} {e : TypeId} {g n c : Nat} {L : List En} (h : Own w base e 3 ent (.slice (some ⟨g, 0, none⟩) n c) L) (hl : L.length = n) {z : Nat} {x : En} (hz : L[z]? = some x) (y : En) :
    Own (((w.setCell ⟨g, z * 3, none⟩ (.int .i64 y.t)).setCell ⟨g, z * 3 + 1, none⟩ (.int .i64 y.k)).setCell ⟨g, z * 3 + 2, none⟩ (.int .i64 y.i)) base e 3 ent (.slice (some ⟨g, 0, none⟩) n c) (L.set z y) ∧
      Below base w (((w.setCell ⟨g, z * 3, none⟩ (.int .i64 y.t)).setCell ⟨g, z * 3 + 1, none⟩ (.int .i64 y.k)).setCell ⟨g, z * 3 + 2, none⟩ (.int .i64 y.i)) := by
  have hzl := (List.getElem?_eq_some_iff.1 hz).1
  have s1 := Own.storeF ent_len h hl hz (j := 0) (x' := ⟨y.t, x.k, x.i⟩) (u := .int .i64 y.t) rfl (by omega)
  have s2 := Own.storeF ent_len s1.1 (by simpa using hl) (z := z) (x := ⟨y.t, x.k, x.i⟩) (by simp [hzl]) (j := 1) (x' := ⟨y.t, y.k, x.i⟩) (u := .int .i64 y.k) rfl (by omega)
  have s3 := Own.storeF ent_len s2.1 (by simpa using hl) (z := z) (x := ⟨y.t, y.k, x.i⟩) (by simp [hzl]) (j := 2) (x' := y) (u := .int .i64 y.i) rfl (by omega)
  refine ⟨?_, (s1.2.trans s2.2).trans s3.2⟩
  have := s3.1
  rwa [List.set_set, List.set_set] at this
end HB
theorem Ent.info : (Try.prog.info? 70).map (fun i => (i.zero, i.size, i.bytes)) = some (some (.agg #[.int .i64 0, .int .i64 0, .int .i64 0]), 3, 24) := by kernel_rfl
set_option maxRecDepth 100000 in
set_option maxHeartbeats 2000000 in
theorem heap_less (a b : En) (w : World) :
    Calls Try.prog 44 #[.agg #[.int .i64 a.t, .int .i64 a.k, .int .i64 a.i], .agg #[.int .i64 b.t, .int .i64 b.k, .int .i64 b.i]] w fun e w' => e = .returned (.bool (lt a b)) ∧ Below w.heap.size w w' := by
  have hl := hide (show lt a b = if a.t ≠ b.t then decide (a.t < b.t) else if a.k ≠ b.k then decide (a.k < b.k) else decide (a.i < b.i) from rfl)
  obtain ⟨a0, a1, a2⟩ := a
  obtain ⟨b0, b1, b2⟩ := b
  generalize lt _ _ = q at *
  go_enter Try.func44, Try.ntmps44
  go_wp2_with fail
  all_goals
    go_ret
    have h1 := hl.out
    simp_all
    exact ((Below.refl _ _).alloc (Nat.le_refl _) _).alloc (by simp) _
set_option maxRecDepth 100000 in
set_option maxHeartbeats 2000000 in
theorem ref_less (a b : En) (w : World) :
    Calls Try.prog 45 #[.agg #[.int .i64 a.t, .int .i64 a.k, .int .i64 a.i], .agg #[.int .i64 b.t, .int .i64 b.k, .int .i64 b.i]] w fun e w' => e = .returned (.bool (lt a b)) ∧ Below w.heap.size w w' := by
  have hl := hide (show lt a b = if a.t ≠ b.t then decide (a.t < b.t) else if a.k ≠ b.k then decide (a.k < b.k) else decide (a.i < b.i) from rfl)
  obtain ⟨a0, a1, a2⟩ := a
  obtain ⟨b0, b1, b2⟩ := b
  generalize lt _ _ = q at *
  go_enter Try.func45, Try.ntmps45
  go_wp2_with fail
  all_goals
    go_ret
    have h1 := hl.out
    simp_all
    exact ((Below.refl _ _).alloc (Nat.le_refl _) _).alloc (by simp) _
end Go.Proofs.Ytknmpfimnbenjaa
