/-
  The walks of the document's Sorted; of slices.Equal of two rows of entries that are alike; of heap.Make.
-/
import Derived.Test.YtknmpfimnbenjaaHeapRef
namespace Go.Proofs.Ytknmpfimnbenjaa
open Go.RowKit HB HeapP
set_option linter.unusedVariables false
set_option linter.unusedSimpArgs false
set_option maxRecDepth 100000 in
set_option maxHeartbeats 4000000 in
theorem ref_sorted6 (A : Option Addr) (n c B : Nat) (l : List En) (w : World) (hr : Rd w B 3 A n (l.flatMap ent)) (hB : B ≤ w.heap.size) (hl : l.length = n) (hn : n ≤ 1000000) :
    Calls Try.prog 37 #[.slice A n c] w fun e w' => (∃ v s, e = .returned v ∧ Own w' w.heap.size 70 3 ent v s ∧ Srt s ∧ s.Perm l) ∧ Below w.heap.size w w' := by
  have Hl := hide hl
  have HR := hide hr
  clear hl hr
  go_enter Try.func37, Try.ntmps37
  go_wp2_with fail
  go_loopw [3, 4] (fun o i wr => ∃ (k : Nat) (s : List En), k ≤ n ∧ i = .int .i64 k ∧ Own wr w.heap.size 70 3 ent o s ∧ Srt s ∧ s.Perm (l.take k) ∧ Below w.heap.size w wr) (fun _ i _ => n - (intOf i).toNat)
  case atStart => exact ⟨0, [], Nat.zero_le _, rfl, Own.nil _ _ _ _ _, List.Pairwise.nil, by simp, Below.refl _ _⟩
  case round =>
    obtain ⟨k, s, hk, rfl, hown, hs, hpm, hbel⟩ := hrel
    have HS := hide hs
    have HPM := hide hpm
    have HBX := hide hbel
    have hsl : s.length = k := by rw [hpm.length_eq, List.length_take, Hl.out]; omega
    have HSL := hide hsl
    by_cases hlt : k < n
    · obtain ⟨b, off, x, rfl, hb, hg, c0, c1, c2⟩ := (HR.out.below (hbel.mono hB)).ent_at Hl.out hlt
      obtain ⟨A2, c', rfl, hc', hr2⟩ := hown.shape
      have HG := hide hg
      rw [hsl] at hc' hr2
      have HP := hide (ref_put6 A2 k c' wr.heap.size s x wr hr2 (Nat.le_refl _) hsl hc' (by omega))
      have i0 : (0 : Int) ≤ (k : Int) := by omega
      have i1 : (k : Int) < (n : Int) := by omega
      rw [hsl]
      clear hown hs hpm hbel hsl hg hr2
      go_wp2_with (go_at_call 62; refine (HP.out).mono ?_; rintro e w4 ⟨⟨v4, q, rfl, hown4, hat⟩, hb4⟩; have HO4 := hide hown4; have HA4 := hide hat; have HB4 := hide hb4; clear hown4 hat hb4)
      go_roundw
      case rel =>
        refine ⟨k + 1, s.take q ++ x :: s.drop q, by omega, by go_num, HO4.out.small HBX.out.size, HA4.out.srt HS.out, ?_, HBX.out.trans (HB4.out.mono HBX.out.size)⟩
        rw [List.take_add_one, HG.out]
        exact (put_perm s x q).trans (((List.perm_cons x).2 HPM.out).trans (List.perm_append_comm (l₁ := [x]) (l₂ := l.take k)))
      case measure => simp [intOf]; omega
    · have HO := hide hown
      have he := hide (show l.take k = l from List.take_of_length_le (by rw [Hl.out]; omega))
      clear hown hs hpm hbel hsl
      go_wp2_with fail
      go_ret
      exact ⟨⟨_, s, rfl, HO.out, HS.out, by rw [← he.out]; exact HPM.out⟩, HBX.out⟩
set_option maxRecDepth 100000 in
set_option maxHeartbeats 2000000 in
theorem eqEnt_same (A A' : Option Addr) (n c c' B B' : Nat) (L : List En) (w : World) (hx : Rd w B 3 A n (L.flatMap ent)) (hy : Rd w B' 3 A' n (L.flatMap ent)) (hl : L.length = n) (hn : n ≤ 1000000) :
    Calls Try.prog 42 #[.slice A n c, .slice A' n c'] w fun e w' => e = .returned (.bool true) ∧ Below w.heap.size w w' := by
  have Hl := hide hl
  clear hl
  have hneq : ((n : Int) != (n : Int)) = false := by simp
  go_enter Try.func42, Try.ntmps42
  go_wp2_with fail
  go_loopw [13] (fun i wr => ∃ k m : Nat, k ≤ n ∧ i = .int .i64 k ∧ wr = w.drewN m) (fun i _ => n - (intOf i).toNat)
  case atStart => exact ⟨0, 0, Nat.zero_le _, rfl, rfl⟩
  case round =>
    obtain ⟨k, m, hk, rfl, rfl⟩ := hrel
    by_cases hlt : k < n
    · obtain ⟨b, off, x, rfl, hb, hg, c0, c1, c2⟩ := hx.ent_at Hl.out hlt
      obtain ⟨b', off', x', rfl, hb', hg', c0', c1', c2'⟩ := hy.ent_at Hl.out hlt
      rw [hg] at hg'
      simp only [Option.some.injEq] at hg'
      subst hg'
      have i0 : (0 : Int) ≤ (k : Int) := by omega
      have i1 : (k : Int) < (n : Int) := by omega
      clear hg hx hy
      go_wp2_with fail
      go_quiet (fail)
      go_wp2_with fail
      go_roundw
      case rel => exact ⟨k + 1, _, by omega, by go_num, rfl⟩
      case measure => simp [intOf]; omega
    · go_wp2_with fail
      go_ret
      exact ⟨rfl, below_drewN (Below.refl _ _) m⟩
end Go.Proofs.Ytknmpfimnbenjaa
