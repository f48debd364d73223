/-
  The walk of the law's alive (chapter 06).
-/
import Derived.Test.YtknmpfimnbenjaaHeapSort
namespace Go.Proofs.Ytknmpfimnbenjaa
open Go.RowKit HB HeapP
set_option linter.unusedVariables false
set_option linter.unusedSimpArgs false
set_option maxRecDepth 100000 in
set_option maxHeartbeats 4000000 in
theorem heap_alive (w : World) :
    Calls Try.prog 41 #[] w fun e w' => e = .returned (.bool true) ∧ Below w.heap.size w w' := by
  obtain ⟨g0, h0, -, hg0⟩ := Hp.boxed (w := w) (base := w.heap.size) (Own.nil w w.heap.size 70 3 ent) (Nat.le_refl _)
  have hge : w.heap.size ≤ g0 := by
    have := h0
    obtain ⟨v, h1, h2, h3, h4, h5⟩ := h0
    have hc : (w.alloc (.cells #[.slice none 0 0] 85)).cell? ⟨w.heap.size, 0, none⟩ = some (.slice none 0 0) := by
      rw [cell_of_row _ w.heap.size 0 #[.slice none 0 0] 85 (0, 0) (heap_alloc_new w _)]; simp
    rw [hc] at h1
    injection h1 with h1
    subst h1
    rcases h5 with ⟨_, _, rfl⟩ | ⟨c, h6, _⟩
    · exact Nat.le_refl _
    · simp at h6
  have HP0 := hide h0
  have HI0 := hide (show IsHeap [] from fun j _ _ x y hx => by simp at hx)
  have HB0 := hide ((Below.refl w.heap.size w).alloc (Nat.le_refl _) (.cells #[.slice none 0 0] 85))
  have HP1 := hide (heap_push w.heap.size g0 0 [] ⟨5, 1, 0⟩ _ h0 HI0.out rfl (by omega))
  clear h0 hg0
  have hz0 := HB0.out.size
  generalize hp : w.heap.size = p at *
  go_enter Try.func41, Try.ntmps41
  go_upto_region 3 with (go_at_call 65; refine (HP1.out).mono ?_; rintro e w1 ⟨rfl, g1, L1, hp1, hi1, hm1, ho1, hg1⟩)
  have HP2 := hide (heap_push p g1 1 L1 ⟨5, 0, 9⟩ w1 hp1 hi1 (by simpa using hm1.length_eq) (by omega))
  have hb1 : Below p w w1 := HB0.out.trans (ho1.below (Nat.le_refl _) hge hz0)
  have hg1' : p ≤ g1 := by rcases hg1 with h | h <;> omega
  have HB1 := hide hb1
  have HM1 := hide hm1
  have hz1 : p ≤ w1.heap.size := by have := hb1.size; omega
  clear HP1 hp1 hi1 hm1 ho1 hg1 hb1
  go_upto_region 4 with (go_at_call 65; refine (HP2.out).mono ?_; rintro e w2 ⟨rfl, g2, L2, hp2, hi2, hm2, ho2, hg2⟩)
  have hm3 := hm2.trans ((List.perm_cons _).2 HM1.out)
  have hl2 : L2.length = 2 := by simpa using hm3.length_eq
  have htop : top L2 = ⟨5, 0, 9⟩ := by
    have hr := top_get (L := L2) (by omega)
    have hmem : top L2 ∈ L2 := List.mem_of_getElem? hr
    have h1 := hm3.mem_iff.1 hmem
    have h2 := root_mem hi2 hr ⟨5, 0, 9⟩ (hm3.mem_iff.2 (by simp))
    rcases List.mem_cons.1 h1 with h | h
    · exact h
    · simp only [List.mem_singleton] at h
      rw [h] at h2
      exact absurd h2 (by decide)
  have hpo := heap_pop p g2 2 L2 w2 hp2 hi2 hl2 (by omega)
  rw [htop] at hpo
  have HPO := hide hpo
  have HL2 := hide hl2
  have HB2 := hide (HB1.out.trans (ho2.below (Nat.le_refl _) hg1' hz1))
  have hg2' : p ≤ g2 := by rcases hg2 with h | h <;> omega
  have hz2 : p ≤ w2.heap.size := by have := HB2.out.size; omega
  clear HP2 hp2 hi2 hm2 ho2 hg2 hm3 hl2 htop hpo
  go_upto_region 5 with (go_at_call 63; refine (HPO.out).mono ?_; rintro e w3 ⟨rfl, L3, hp3, hi3, h30, h31, ho3⟩)
  have hl3 : L3.length = 1 := by
    have := (h31 (by omega)).length_eq
    rw [HL2.out] at this
    simpa using this.symm
  have hb3 := HB2.out.trans (ho3.below (Nat.le_refl _) hg2' hz2)
  have hz3 : p ≤ w3.heap.size := by have := hb3.size; omega
  have HB3 := hide (hb3.alloc hz3 (.cells #[.int .i64 5, .int .i64 0, .int .i64 9] 70))
  have HLN := hide (heap_len p g2 1 L3 _ (hp3.below ((Below.refl _ _).alloc (Nat.le_refl _) (.cells #[.int .i64 5, .int .i64 0, .int .i64 9] 70))) hl3)
  clear HPO hp3 hi3 h30 h31 ho3 hb3
  go_wp2_with (go_at_call 39; refine (HLN.out).mono ?_; rintro e w4 ⟨rfl, rfl⟩)
  go_ret
  exact ⟨rfl, HB3.out⟩
end Go.Proofs.Ytknmpfimnbenjaa
