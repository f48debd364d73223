/-
  The walks of the heap's Peek, Len, Pop.
-/
import Derived.Test.YtknmpfimnbenjaaHeapDown
namespace Go.Proofs.Ytknmpfimnbenjaa
open Go.RowKit HB HeapP
set_option linter.unusedVariables false
set_option linter.unusedSimpArgs false
namespace HeapP
/-- the first entry; none: the zero one -/
def top (L : List En) : En := match L with | [] => ⟨0, 0, 0⟩ | a :: _ => a
theorem top_zero {L : List En} (h : L.length = 0) : top L = ⟨0, 0, 0⟩ := by cases L with | nil => rfl | cons a L => simp at h
theorem top_get {L : List En} (h : 0 < L.length) : L[0]? = some (top L) := by cases L with | nil => simp at h | cons a L => rfl
end HeapP
set_option maxRecDepth 100000 in
set_option maxHeartbeats 4000000 in
theorem heap_peek (p g n : Nat) (L : List En) (w : World) (h : Hp w p g L) (hl : L.length = n) (hn : n ≤ 1000000) :
    Calls Try.prog 40 #[.pointer (some ⟨p, 0, none⟩)] w fun e w' => e = .returned (.tuple #[.agg #[.int .i64 (top L).t, .int .i64 (top L).k, .int .i64 (top L).i], .bool (decide (0 < n))]) ∧ Below w.heap.size w w' := by
  have Hl := hide hl
  rcases Nat.eq_zero_or_pos n with h0 | h0
  · obtain ⟨A, c, cp, hc⟩ := h.sl
    rw [hl, h0] at cp
    rw [top_zero (by omega)]
    subst h0
    have np : p < w.heap.size := World.block_lt_of_cell? w _ cp
    clear h hc hl
    go_enter Try.func40, Try.ntmps40
    go_wp2_with fail
    go_returns
    exact ⟨rfl, (Below.refl _ _).alloc (Nat.le_refl _) _⟩
  · obtain ⟨c, cp, hc, hgp, hown⟩ := h.at_ (by omega)
    rw [hl] at cp hc hown
    obtain ⟨x0, x1, x2, -, -, -⟩ := hown.ent_at hl (top_get (L := L) (by omega))
    have h1 : (0 : Int) < (n : Int) := by omega
    have h2 : ((n : Int) == 0) = false := by simp; omega
    have h3 := hide h0
    generalize top L = x at *
    have np : p < w.heap.size := World.block_lt_of_cell? w _ cp
    have ng : g < w.heap.size := World.block_lt_of_cell? w _ x0
    clear h hc hl hown h0
    go_enter Try.func40, Try.ntmps40
    go_wp2_with fail
    go_returns
    exact ⟨by rw [decide_eq_true h3.out], (Below.refl _ _).alloc (Nat.le_refl _) _⟩
set_option maxRecDepth 100000 in
set_option maxHeartbeats 4000000 in
theorem heap_len (p g n : Nat) (L : List En) (w : World) (h : Hp w p g L) (hl : L.length = n) :
    Calls Try.prog 39 #[.pointer (some ⟨p, 0, none⟩)] w fun e w' => e = .returned (.int .i64 n) ∧ w' = w := by
  obtain ⟨A, c, cp, hc⟩ := h.sl
  rw [hl] at cp
  clear h hc hl
  go_enter Try.func39, Try.ntmps39
  go_wp2_with fail
  go_ret
  exact ⟨rfl, rfl⟩
set_option maxRecDepth 100000 in
set_option maxHeartbeats 4000000 in
theorem heap_pop (p g n : Nat) (L : List En) (w : World) (h : Hp w p g L) (hh : IsHeap L) (hl : L.length = n) (hn : n ≤ 1000000) :
    Calls Try.prog 63 #[.pointer (some ⟨p, 0, none⟩)] w fun e w' => e = .returned (.tuple #[.agg #[.int .i64 (top L).t, .int .i64 (top L).k, .int .i64 (top L).i], .bool (decide (0 < n))]) ∧ ∃ L', Hp w' p g L' ∧ IsHeap L' ∧ (n = 0 → L' = []) ∧ (0 < n → L.Perm (top L :: L')) ∧ Only p g w w' := by
  have HP := hide (fun W (hb : Below w.heap.size w W) => heap_peek p g n L W (h.below hb) hl hn)
  have HH := hide h
  have HI := hide hh
  have Hl := hide hl
  rcases Nat.eq_zero_or_pos n with h0 | h0
  · subst h0
    have hL : L = [] := List.eq_nil_of_length_eq_zero hl
    have hlt : decide (0 < 0) = false := by simp
    subst hL
    clear h hh hl
    go_enter Try.func63, Try.ntmps63
    go_wp2_with (go_at_call 40; refine (HP.out _ ((Below.refl _ _).alloc (Nat.le_refl _) _)).mono ?_; rintro e w1 ⟨rfl, hb1⟩; obtain ⟨r0, r1, r2, f0, f1, f2, hr⟩ := (Trio.new w 70 (.int .i64 0) (.int .i64 0) (.int .i64 0)).below hb1)
    (try simp only [Exit.inBlock, Exit.then])
    refine bodyPost_ret (by simp [results, Try.results63, go_sem, r0, r1, r2, f0, f1, f2, hr]; try rfl) rfl ?_
    have hB := (((((((Below.refl w.heap.size w).alloc (Nat.le_refl _) (.cells #[.int .i64 0, .int .i64 0, .int .i64 0] 70)).trans (hb1.mono (by simp))).setCell (p := ⟨w.heap.size, 0, none⟩) (Nat.le_refl _) (.int .i64 (top []).t)).setCell (p := ⟨w.heap.size, 1, none⟩) (Nat.le_refl _) (.int .i64 (top []).k)).setCell (p := ⟨w.heap.size, 2, none⟩) (Nat.le_refl _) (.int .i64 (top []).i)).alloc (by simp; omega) (.cells #[.int .i64 (top []).t, .int .i64 (top []).k, .int .i64 (top []).i] 70))
    exact ⟨rfl, [], HH.out.below hB, HI.out, fun _ => rfl, fun h => absurd h (by omega), Only.of_below hB⟩
  · have hlt : decide (0 < n) = true := by simpa using h0
    have H0 := hide h0
    obtain ⟨m, rfl⟩ : ∃ m, n = m + 1 := ⟨n - 1, by omega⟩
    have HX := hide (top_get (L := L) (by omega))
    clear h hh hl h0
    generalize top L = x at *
    go_enter Try.func63, Try.ntmps63
    go_upto_region 4 with (go_at_call 40; refine (HP.out _ ((Below.refl _ _).alloc (Nat.le_refl _) _)).mono ?_; rintro e w1 ⟨rfl, hb1⟩; obtain ⟨r0, r1, r2, f0, f1, f2, hr⟩ := (Trio.new w 70 (.int .i64 0) (.int .i64 0) (.int .i64 0)).below hb1)
    have hB1 := ((Below.refl w.heap.size w).alloc (Nat.le_refl _) (.cells #[.int .i64 0, .int .i64 0, .int .i64 0] 70)).trans (hb1.mono (by simp))
    have hB2 := hB1.alloc (Nat.le_of_lt hr) (.cells #[.int .i64 x.t, .int .i64 x.k, .int .i64 x.i] 70)
    have HB2 := hide hB2
    have HRT := hide ((⟨r0, r1, r2, f0, f1, f2, hr⟩ : Trio w1 w.heap.size (.int .i64 0) (.int .i64 0) (.int .i64 0)).below ((Below.refl _ _).alloc (Nat.le_refl _) (.cells #[.int .i64 x.t, .int .i64 x.k, .int .i64 x.i] 70)))
    have HQT := hide (Trio.new w1 70 (.int .i64 x.t) (.int .i64 x.k) (.int .i64 x.i))
    have HP2 := hide (HH.out.below hB2)
    have hgl := HH.out.gl
    have hpl : p < w.heap.size := by obtain ⟨_, _, _, h3, _⟩ := HH.out; exact h3
    clear hB1 hB2 hb1 r0 r1 r2 f0 f1 f2 HP
    generalize w1.alloc (.cells #[.int .i64 x.t, .int .i64 x.k, .int .i64 x.i] 70) = w2 at *
    generalize w1.heap.size = q at *
    have HNE := hide (show w.heap.size ≠ p ∧ w.heap.size ≠ g ∧ q ≠ p ∧ q ≠ g ∧ q ≠ w.heap.size ∧ w.heap.size ≤ q by omega)
    generalize hrr : w.heap.size = r at *
    obtain ⟨c, cp, hc, hgp, hown⟩ := HP2.out.at_ (by rw [Hl.out]; omega)
    rw [Hl.out] at cp hc hown
    have fp : w2.frozen? ⟨p, 0, none⟩ = false := by obtain ⟨_, _, h2, _⟩ := HP2.out; exact h2
    obtain ⟨z, hz⟩ : ∃ z, L[m]? = some z := ⟨_, List.getElem?_eq_getElem (by rw [Hl.out]; omega)⟩
    obtain ⟨x0, x1, x2, f0, f1, f2⟩ := hown.ent_at Hl.out HX.out
    obtain ⟨z0, z1, z2, -, -, -⟩ := hown.ent_at Hl.out hz
    have HZ := hide hz
    have i0 : (0 : Int) ≤ (m : Int) := by omega
    have i1 : (m : Int) < (m : Int) + 1 := by omega
    obtain ⟨l1, l2, l3⟩ := pop_split Hl.out HX.out HZ.out HI.out
    have HP3 := hide (HP2.out.set0 HX.out z).drew
    have HO3 := hide (((((Only.refl p g w2).set (a := ⟨g, 0, none⟩) (.inr ⟨rfl, hgp⟩) (.int .i64 z.t)).set (a := ⟨g, 1, none⟩) (.inr ⟨rfl, hgp⟩) (.int .i64 z.k)).set (a := ⟨g, 2, none⟩) (.inr ⟨rfl, hgp⟩) (.int .i64 z.i)).drew)
    have L1 := hide l1
    have L2 := hide l2
    have L3 := hide l3
    clear hown hz l1 l2 l3 cp fp hc
    obtain ⟨c3, cp3, hc3, _, _⟩ := HP2.out.at_ (by rw [Hl.out]; omega)
    rw [Hl.out] at cp3 hc3
    go_wp2_with fail
    go_region
    generalize ((((w2.setCell ⟨g, 0, none⟩ (.int .i64 z.t)).setCell ⟨g, 1, none⟩ (.int .i64 z.k)).setCell ⟨g, 2, none⟩ (.int .i64 z.i)).drew) = w3 at *
    clear cp3 x0 x1 x2 z0 z1 z2 f0 f1 f2
    have hls : (L.set 0 z).length = m + 1 := by rw [List.length_set]; exact Hl.out
    obtain ⟨c, cp, hc, _, _⟩ := HP3.out.at_ (by rw [hls]; omega)
    have HP4 := hide (HP3.out.cut (n := m) cp (by rw [hls]; omega))
    rw [hls] at cp hc
    have fp : w3.frozen? ⟨p, 0, none⟩ = false := by obtain ⟨_, _, h2, _⟩ := HP3.out; exact h2
    have HO4 := hide (HO3.out.set (a := ⟨p, 0, none⟩) (.inl rfl) (.slice (some ⟨g, 0, none⟩) m c))
    have hdn := heap_down p g 0 0 m ((L.set 0 z).take m) _ HP4.out (down_start L2.out) (Nat.le_refl _) L1.out (by omega) (by omega)
    rw [show ((0 : Nat) : Int) = 0 from rfl] at hdn
    have HDN := hide hdn
    clear hdn
    clear hls
    generalize (L.set 0 z).take m = N at *
    clear HP4 HP3 HO3
    go_wp2_with (go_at_call 61; refine (HDN.out).mono ?_; rintro e w5 ⟨rfl, L5, hp5, hf5, hm5, ho5⟩; have HO5 := hide (HO4.out.trans ho5 (.inl rfl)); obtain ⟨r0, r1, r2, rf0, rf1, rf2, hr5⟩ := HRT.out.only HO5.out HNE.out.1 HNE.out.2.1; obtain ⟨q0, q1, q2, qf0, qf1, qf2, hq5⟩ := HQT.out.only HO5.out HNE.out.2.2.1 HNE.out.2.2.2.1; have HP5 := hide hp5; have HF5 := hide hf5; have HM5 := hide hm5; clear hp5 hf5 hm5 ho5)
    (try simp only [Exit.inBlock, Exit.then])
    refine bodyPost_ret (by simp [results, Try.results63, go_sem, *]; try rfl) rfl ?_
    have hrp := HNE.out.1
    have hrg := HNE.out.2.1
    have hq1 : (⟨r, 0, none⟩ : Addr).block ≠ p := hrp
    have hq2 : (⟨r, 0, none⟩ : Addr).block ≠ g := hrg
    refine ⟨by rw [hlt], L5, ((HP5.out.setOther (a := ⟨r, 0, none⟩) hrp hrg _).setOther (a := ⟨r, 1, none⟩) hrp hrg _).setOther (a := ⟨r, 2, none⟩) hrp hrg _, HF5.out, fun h => absurd h (by omega), fun _ => L3.out.trans ((List.perm_cons x).2 HM5.out.symm), ?_⟩
    have hb2 := HB2.out
    rw [← hrr] at hb2
    exact ((((Only.of_below hb2).trans HO5.out (.inl rfl)).setNew (a := ⟨r, 0, none⟩) (by simp; omega) _).setNew (a := ⟨r, 1, none⟩) (by simp; omega) _).setNew (a := ⟨r, 2, none⟩) (by simp; omega) _
end Go.Proofs.Ytknmpfimnbenjaa
