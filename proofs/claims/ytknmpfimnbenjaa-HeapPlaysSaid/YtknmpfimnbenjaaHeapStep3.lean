/-
  The walk of the law's step (chapter 06): Push; all calls.
-/
import Derived.Test.YtknmpfimnbenjaaHeapStep2
namespace Go.Proofs.Ytknmpfimnbenjaa
open Go.RowKit HB HeapP
set_option linter.unusedVariables false
set_option linter.unusedSimpArgs false
set_option maxRecDepth 100000 in
set_option maxHeartbeats 8000000 in
theorem heap_step_push (p g n c K : Nat) (A : Option Addr) (L l : List En) (a : En) (w : World) (h : Hp w p g L) (hh : IsHeap L) (hr : RdX w p g A n l) (hl : l.length = n) (hc : n ≤ c) (hs : Srt l) (hp : l.Perm L) (hn : n ≤ 100000) (hK : K % 6 ≠ 3 ∧ K % 6 ≠ 4 ∧ K % 6 ≠ 5) :
    Calls Try.prog 38 #[.pointer (some ⟨p, 0, none⟩), .slice A n c, .agg #[.int .i64 K, .int .i64 a.t, .int .i64 a.k, .int .i64 a.i]] w (StepP p g n w) := by
  have hLl : L.length = n := by rw [← hp.length_eq]; exact hl
  have HB0 := hide ((Below.refl w.heap.size w).alloc (Nat.le_refl _) (.cells #[.int .i64 K, .int .i64 a.t, .int .i64 a.k, .int .i64 a.i] 72))
  have HR0 := hide (hr.only (g := g) (Only.of_below (p := p) HB0.out) (.inl rfl))
  have HPU := hide (heap_push p g n L a _ (h.below HB0.out) hh hLl (by omega))
  have HON0 := hide (Only.of_below (p := p) (g := g) HB0.out)
  have HL := hide hl
  have HS := hide hs
  have HPM := hide hp
  obtain ⟨m, hm⟩ : ∃ m, m = K % 6 := ⟨_, rfl⟩
  have hm6 : m < 6 := by rw [hm]; exact Nat.mod_lt _ (by omega)
  rw [← hm] at hK
  have e1 : (K : Int).tmod 6 = (m : Int) := by rw [Int.tmod_eq_emod_of_nonneg (by omega)]; omega
  have e2 : (K : Int) % 6 = (m : Int) := by omega
  have e3 : IntKind.i64.wrap (m : Int) = (m : Int) := IntWalk.i64_in _ (by omega)
  have m3 : ((m : Int) == 3) = false := by simp; omega
  have m4 : ((m : Int) == 4) = false := by simp; omega
  have m5 : ((m : Int) == 5) = false := by simp; omega
  have HNE := hide (show w.heap.size ≠ p ∧ w.heap.size ≠ g by have := h.pl; have := h.gl; omega)
  have key : ∀ j, (w.alloc (.cells #[.int .i64 K, .int .i64 a.t, .int .i64 a.k, .int .i64 a.i] 72)).cell? ⟨w.heap.size, j, none⟩ = [.int .i64 K, .int .i64 a.t, .int .i64 a.k, .int .i64 a.i][j]? := fun j => by
    rw [cell_of_row _ w.heap.size j _ 72 (0, 0) (heap_alloc_new w _)]; simp
  have c1 := key 1
  have c2 := key 2
  have c3 := key 3
  have HP0 := hide (show p < w.heap.size ∧ g < w.heap.size from ⟨h.pl, h.gl⟩)
  clear h hh hr hl hs hp hLl hm key
  go_enter Try.func38, Try.ntmps38
  go_upto_region 13 with fail
  generalize w.alloc (.cells #[.int .i64 K, .int .i64 a.t, .int .i64 a.k, .int .i64 a.i] 72) = w0 at *
  generalize hrr : w.heap.size = r at *
  have c1 : w0.cell? ⟨r, 1, none⟩ = some (.int .i64 a.t) := c1
  have c2 : w0.cell? ⟨r, 2, none⟩ = some (.int .i64 a.k) := c2
  have c3 : w0.cell? ⟨r, 3, none⟩ = some (.int .i64 a.i) := c3
  go_wp2_with (first
    | (go_at_call 65; refine (HPU.out).mono ?_; rintro e w4 ⟨rfl, g4, L4, hp4, hi4, hm4, ho4, hg4⟩; have HP4 := hide hp4; have HI4 := hide hi4; have HM4 := hide hm4; have HO4 := hide ho4; have HG4 := hide hg4; have d1 := ho4.cell c1 HNE.out.1 HNE.out.2; have d2 := ho4.cell c2 HNE.out.1 HNE.out.2; have d3 := ho4.cell c3 HNE.out.1 HNE.out.2; clear hp4 hi4 hm4 ho4 hg4 c1 c2 c3)
    | (go_at_call 62; refine (ref_put6 A n c w4.heap.size l a w4 (HR0.out.only HO4.out HG4.out).1 (Nat.le_refl _) HL.out hc (by omega)).mono ?_; rintro e w5 ⟨⟨v5, k5, rfl, hown5, hat5⟩, hb5⟩; obtain ⟨A5, c5, rfl, hc5, -⟩ := hown5.shape; have hlen := (put_perm l a k5).length_eq; rw [List.length_cons, HL.out] at hlen; have HW5 := hide hown5; have HA5 := hide hat5; have HB5 := hide hb5; rw [hlen] at hc5 ⊢; have HLEN := hide hlen; clear hown5 hat5 hb5 hlen))
  go_ret2
  have hlen := HLEN.out
  have hz4 := HO4.out.size
  have hp4l := HP4.out.pl
  have hg4l := HP4.out.gl
  have hq := RdX.fresh HW5.out hp4l hg4l
  rw [hlen] at hq
  have hon := HON0.out.trans HO4.out (.inl rfl)
  refine ⟨g4, L4, A5, n + 1, c5, l.take k5 ++ a :: l.drop k5, rfl, HP4.out.below HB5.out, HI4.out, hq, hlen, hc5, HA5.out.srt HS.out, ?_, Nat.le_refl _, hon.then_ HB5.out, ?_⟩
  · exact ((put_perm l a k5).trans ((List.perm_cons a).2 HPM.out)).trans HM4.out.symm
  · rcases HG4.out with h | h
    · exact .inl h
    · right; rw [hrr]; have := HON0.out.size; omega
theorem heap_step (p g n c K : Nat) (A : Option Addr) (L l : List En) (a : En) (w : World) (h : Hp w p g L) (hh : IsHeap L) (hr : RdX w p g A n l) (hl : l.length = n) (hc : n ≤ c) (hs : Srt l) (hp : l.Perm L) (hn : n ≤ 100000) :
    Calls Try.prog 38 #[.pointer (some ⟨p, 0, none⟩), .slice A n c, .agg #[.int .i64 K, .int .i64 a.t, .int .i64 a.k, .int .i64 a.i]] w (StepP p g n w) := by
  by_cases h5 : K % 6 = 5
  · exact heap_step_until p g n c K A L l a w h hh hr hl hc hs hp hn h5
  · by_cases h34 : K % 6 = 3 ∨ K % 6 = 4
    · exact heap_step_pop p g n c K A L l a w h hh hr hl hc hs hp hn h34
    · exact heap_step_push p g n c K A L l a w h hh hr hl hc hs hp hn (by omega)
end Go.Proofs.Ytknmpfimnbenjaa
