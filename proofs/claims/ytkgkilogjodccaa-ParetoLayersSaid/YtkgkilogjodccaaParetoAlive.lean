/-
  The walk of the law's own example for package pareto.
-/
import Derived.Test.YtkgkilogjodccaaPareto
namespace Go.Proofs.Ytkgkilogjodccaa
open Go.RowKit HB ParetoP
set_option linter.unusedVariables false
set_option linter.unusedSimpArgs false
theorem Rws.three {w : World} {B a b c d : Nat} {x1 y1 x2 y2 x3 y3 : Int} (ha : a < B) (hb : b < B) (hc : c < B) (hd : d < B)
    (h1 : w.cell? ⟨a, 0, none⟩ = some (.int .i64 x1)) (h2 : w.cell? ⟨a, 1, none⟩ = some (.int .i64 y1))
    (h3 : w.cell? ⟨b, 0, none⟩ = some (.int .i64 x2)) (h4 : w.cell? ⟨b, 1, none⟩ = some (.int .i64 y2))
    (h5 : w.cell? ⟨c, 0, none⟩ = some (.int .i64 x3)) (h6 : w.cell? ⟨c, 1, none⟩ = some (.int .i64 y3))
    (h7 : w.cell? ⟨d, 0, none⟩ = some (.slice (some ⟨a, 0, none⟩) 2 2)) (h8 : w.cell? ⟨d, 1, none⟩ = some (.slice (some ⟨b, 0, none⟩) 2 2)) (h9 : w.cell? ⟨d, 2, none⟩ = some (.slice (some ⟨c, 0, none⟩) 2 2)) :
    Rws w B (some ⟨d, 0, none⟩) 3 [⟨some ⟨a, 0, none⟩, 2, 2, [x1, y1]⟩, ⟨some ⟨b, 0, none⟩, 2, 2, [x2, y2]⟩, ⟨some ⟨c, 0, none⟩, 2, 2, [x3, y3]⟩] := by
  have two : ∀ (e : Nat) (x y : Int), e < B → w.cell? ⟨e, 0, none⟩ = some (.int .i64 x) → w.cell? ⟨e, 1, none⟩ = some (.int .i64 y) → Rd w B 1 (some ⟨e, 0, none⟩) 2 ([x, y].map (Value.int .i64)) := by
    intro e x y he hx hy
    refine ⟨rfl, fun _ => ⟨e, 0, rfl, he, fun j u hu => ?_⟩⟩
    match j, hu with
    | 0, hu => simp at hu; subst hu; exact hx
    | 1, hu => simp at hu; subst hu; exact hy
  refine ⟨⟨rfl, fun _ => ⟨d, 0, rfl, hd, fun j u hu => ?_⟩⟩, rfl, ?_⟩
  · match j, hu with
    | 0, hu => simp at hu; subst hu; exact h7
    | 1, hu => simp at hu; subst hu; exact h8
    | 2, hu => simp at hu; subst hu; exact h9
  · intro r hr
    simp only [List.mem_cons, List.not_mem_nil, or_false] at hr
    rcases hr with rfl | rfl | rfl
    · exact ⟨two a x1 y1 ha h1 h2, rfl⟩
    · exact ⟨two b x2 y2 hb h3 h4, rfl⟩
    · exact ⟨two c x3 y3 hc h5 h6, rfl⟩

set_option maxRecDepth 100000 in
set_option maxHeartbeats 2000000 in
theorem pareto_alive (w : World) : Calls Try.prog 56 #[] w fun e w' => e = .returned (.bool true) ∧ Below w.heap.size w w' := by
  go_enter Try.func56, Try.ntmps56
  go_wp2_with fail
  refine (pareto_front _ 3 3 _ _ _ (Rws.three (B := w.heap.size + 4) (a := w.heap.size) (b := w.heap.size + 1) (c := w.heap.size + 2) (d := w.heap.size + 3) (x1 := 1) (y1 := 2) (x2 := 2) (y2 := 1) (x3 := 2) (y3 := 2) (by omega) (by omega) (by omega) (by omega) (by simp [go_sem]) (by simp [go_sem]) (by simp [go_sem]) (by simp [go_sem]) (by simp [go_sem]) (by simp [go_sem]) (by simp [go_sem]) (by simp [go_sem]) (by simp [go_sem])) (by simp) (by omega) (by intro l hl; simp [lsOf] at hl; rcases hl with rfl | rfl | rfl <;> simp)).mono ?_; rintro e w1 ⟨v, rfl, hown, hb1⟩
  obtain ⟨A, c, rfl, hc, hrd⟩ := hown.ints
  have e1 : front [[1, 2], [2, 1], [2, 2]] 3 = [0, 1] := by decide
  simp only [lsOf, List.map_cons, List.map_nil, List.length_cons, List.length_nil, Nat.zero_add, Nat.reduceAdd, e1] at hc hrd ⊢
  clear hown e1
  have HR := hide (hrd.alloc (Nat.le_refl _) (.cells #[.int .i64 0, .int .i64 1] 3))
  clear hrd
  go_wp2_with fail
  refine (eqInt _ _ _ _ _ _ _ _ [0, 1] [0, 1] _ HR.out (Rd.new w1 3 (xs := [.int .i64 0, .int .i64 1]) rfl) (by simp) (by omega)).mono ?_; rintro e w2 ⟨rfl, m, rfl⟩
  simp only [decide_true]
  go_wp2_with fail
  go_ret
  exact ⟨rfl, below_drewN (Below.alloc (then_ (by go_grown) hb1 (by simp)) (by have := hb1.size; simp at this; omega) _) _⟩
end Go.Proofs.Ytkgkilogjodccaa
