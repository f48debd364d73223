/-
  Slices of spans: how they read, a field of one stored; slices.Equal of two that are alike.
-/
import Derived.Test.YtalecppofemcnaaProg
import Derived.Test.YtalecppofemcnaaOwn
namespace Go.Proofs.Ytalecppofemcnaa
open Go.RowKit HB
set_option linter.unusedVariables false
set_option linter.unusedSimpArgs false
namespace HB
/-- the cells of a span -/
abbrev spn : Int × Int → List Value := fun p => [.int .i64 p.1, .int .i64 p.2]
theorem spn_len (p : Int × Int) : (spn p).length = 2 := rfl
theorem two_new (w : World) (e : TypeId) (a b : Value) : ∀ j u, [a, b][j]? = some u → (w.alloc (.cells #[a, b] e)).cell? ((⟨w.heap.size, 0, none⟩ : Addr).add j) = some u := by
  intro j u hu
  have key : ∀ j, (w.alloc (.cells #[a, b] e)).cell? ⟨w.heap.size, j, none⟩ = [a, b][j]? := fun j => by
    rw [cell_of_row _ w.heap.size j #[a, b] e (0, 0) (heap_alloc_new w _)]; simp
  unfold Addr.add
  split
  · rename_i h; subst h; rw [key]; exact hu
  · rw [Nat.zero_add, key]; exact hu
theorem flat_set1 (L : List (Int × Int)) (z : Nat) (a b b' : Int) (h : L[z]? = some (a, b)) : (L.flatMap spn).set (z * 2 + 1) (.int .i64 b') = (L.set z (a, b')).flatMap spn := by
  induction L generalizing z with
  | nil => simp at h
  | cons x L ih =>
    cases z with
    | zero => simp at h; subst h; simp
    | succ z =>
      rw [List.getElem?_cons_succ] at h
      have := ih z h
      rw [List.flatMap_cons, List.set_cons_succ, List.flatMap_cons, ← this, show (z + 1) * 2 + 1 = z * 2 + 1 + 1 + 1 by omega]
      rfl
/-- the second field of an element is stored -/
theorem Own.store_to {base : Nat} {w : World} {e : TypeId} {g n c : Nat} {L : List (Int × Int)} (h : Own w base e 2 spn (.slice (some ⟨g, 0, none⟩) n c) L) (hl : L.length = n) {z : Nat} {a b : Int} (hz : L[z]? = some (a, b)) (b' : Int) :
    Own (w.setCell ⟨g, z * 2 + 1, none⟩ (.int .i64 b')) base e 2 spn (.slice (some ⟨g, 0, none⟩) n c) (L.set z (a, b')) ∧ Below base w (w.setCell ⟨g, z * 2 + 1, none⟩ (.int .i64 b')) := by
  subst hl
  have h1 := World.ownsRow.stored h.row (z * 2 + 1) (.int .i64 b')
  refine ⟨?_, (Below.refl _ _).setCell (h.row.lt g rfl).1 _⟩
  show World.ownsRow _ base e 2 _ (L.set z (a, b')).length ((L.set z (a, b')).flatMap spn)
  rw [List.length_set, ← flat_set1 L z a b b' hz]
  exact h1.1
/-- the cells of an element, and their marks -/
theorem Own.span_at {base : Nat} {w : World} {e : TypeId} {g n c : Nat} {L : List (Int × Int)} (h : Own w base e 2 spn (.slice (some ⟨g, 0, none⟩) n c) L) (hl : L.length = n) {z : Nat} {a b : Int} (hz : L[z]? = some (a, b)) :
    w.cell? ⟨g, z * 2, none⟩ = some (.int .i64 a) ∧ w.cell? ⟨g, z * 2 + 1, none⟩ = some (.int .i64 b) ∧ w.frozen? ⟨g, z * 2, none⟩ = false ∧ w.frozen? ⟨g, z * 2 + 1, none⟩ = false := by
  subst hl
  have hzl : z < L.length := (List.getElem?_eq_some_iff.1 hz).1
  refine ⟨?_, ?_, World.ownsRow.frozenAt h.row _, World.ownsRow.frozenAt h.row _⟩
  · rw [World.ownsRow.cellAt h.row _ (by omega), show z * 2 = z * 2 + 0 from rfl, flat_get spn_len L z 0 _ hz (by omega)]; rfl
  · rw [World.ownsRow.cellAt h.row _ (by omega), flat_get spn_len L z 1 _ hz (by omega)]; rfl
theorem Own.spans {w : World} {base : Nat} {e : TypeId} {v : Value} {L : List (Int × Int)} (h : Own w base e 2 spn v L) :
    ∃ (A : Option Addr) (c : Nat), v = .slice A L.length c ∧ L.length ≤ c ∧ Rd w w.heap.size 2 A L.length (L.flatMap spn) := h.shape
/-- an element of a slice of spans -/
theorem Rd.span_at {w : World} {B n : Nat} {A : Option Addr} {L : List (Int × Int)} (h : Rd w B 2 A n (L.flatMap spn)) (hl : L.length = n) {i : Nat} (hi : i < n) :
    ∃ b off x y, A = some ⟨b, off, none⟩ ∧ b < B ∧ L[i]? = some (x, y) ∧ w.cell? ⟨b, off + i * 2, none⟩ = some (.int .i64 x) ∧ w.cell? ⟨b, off + i * 2 + 1, none⟩ = some (.int .i64 y) := by
  obtain ⟨b, off, ⟨x, y⟩, hA, hb, hg, hc⟩ := h.elem_at spn_len hl hi
  exact ⟨b, off, x, y, hA, hb, hg, hc 0 _ (by omega) rfl, hc 1 _ (by omega) rfl⟩
end HB

set_option maxRecDepth 100000 in
set_option maxHeartbeats 1000000 in
theorem eqSpan_same (A A' : Option Addr) (n c c' B B' : Nat) (L : List (Int × Int)) (w : World) (hx : Rd w B 2 A n (L.flatMap spn)) (hy : Rd w B' 2 A' n (L.flatMap spn)) (hl : L.length = n) (hn : n ≤ 1000000) :
    Calls Try.prog 46 #[.slice A n c, .slice A' n c'] w fun e w' => e = .returned (.bool true) ∧ ∃ m, w' = w.drewN m := by
  have Hl := hide hl
  clear hl
  have hneq : ((n : Int) != (n : Int)) = false := by simp
  go_enter Try.func46, Try.ntmps46
  go_wp2_with fail
  go_loopw [13] (fun i wr => ∃ k m : Nat, k ≤ n ∧ i = .int .i64 k ∧ wr = w.drewN m) (fun i _ => n - (intOf i).toNat)
  case atStart => exact ⟨0, 0, Nat.zero_le _, rfl, rfl⟩
  case round =>
    obtain ⟨k, m, hk, rfl, rfl⟩ := hrel
    by_cases hlt : k < n
    · obtain ⟨b, off, x, y, rfl, hb, hg, c0, c1⟩ := hx.span_at Hl.out hlt
      obtain ⟨b', off', x', y', rfl, hb', hg', c0', c1'⟩ := hy.span_at Hl.out hlt
      rw [hg] at hg'
      simp only [Option.some.injEq, Prod.mk.injEq] at hg'
      obtain ⟨rfl, rfl⟩ := hg'
      have i0 : (0 : Int) ≤ (k : Int) := by omega
      have i1 : (k : Int) < (n : Int) := by omega
      clear hg hx hy
      go_wp2_with fail
      go_quiet (fail)
      go_wp2_with fail
      go_roundw
      case rel => exact ⟨k + 1, _, by omega, by go_num, rfl⟩
      case measure => simp [intOf]; omega
    · go_wp2_with fail
      go_ret
      exact ⟨rfl, m, rfl⟩
end Go.Proofs.Ytalecppofemcnaa
