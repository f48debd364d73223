/-
  The walk of slices.Clone at int.
-/
import Derived.Test.YtalecppofemcnaaParkBest
import Derived.Test.YtalecppofemcnaaParkRefC
import Derived.Test.YtalecppofemcnaaParkLaw3
import Derived.WalkSpells
namespace Go.Proofs.Ytalecppofemcnaa
open Go.RowKit HB ParkP
set_option linter.unusedVariables false
set_option linter.unusedSimpArgs false
theorem clone_ints (b off n c B : Nat) (l : List Int) (w : World) (hr : Rd w B 1 (some ⟨b, off, none⟩) n (l.map (Value.int .i64))) (hB : B ≤ w.heap.size) (hl : l.length = n) (hn : n ≤ 1000) :
    Calls Try.prog 36 #[.slice (some ⟨b, off, none⟩) n c] w fun e w' => ∃ v, e = .returned v ∧ Own w' w.heap.size 3 1 (num .i64) v l ∧ Below w.heap.size w w' := by
  have Hl := hide hl
  have HR := hide hr
  have hO0 := hide (Own.block (base := w.heap.size) (f := num .i64) (sz := 1) w 3 #[] [] (Nat.le_refl _) rfl (fun _ => rfl) (by simp))
  have hq := fun (W : World) => Lib.run_eql_slice_nil (P := Try.prog) W 26 3 (some ⟨b, off, none⟩) n c 0 0 Try.underlying26
  clear hl hr
  go_enter Try.func36, Try.ntmps36
  go_wp2_with (at_builtin; refine pushAll rfl _ _ 26 rfl Try.underlying26 Zone.iinfo rfl (by omega) (by omega) rfl hO0.out l w.heap.size (some ⟨b, off, none⟩) n c rfl Hl.out (by rw [map_flat]; exact (HR.out.mono hB).alloc (Nat.le_refl _) _) (by rw [map_flat]; intro u hu; obtain ⟨z, _, rfl⟩ := List.mem_map.1 hu; rfl) (by simp) (by omega) (by go_size) ?_; intro v w1 hown hb1)
  rw [List.nil_append] at hown
  have hbel := (show Below w.heap.size w _ from (Below.refl _ _).alloc (Nat.le_refl _) _).trans hb1
  go_ret
  exact ⟨_, rfl, hown, hbel⟩
set_option maxRecDepth 100000 in
set_option maxHeartbeats 4000000 in
theorem parkFloors_no (A : Option Addr) (n c : Nat) (l : List Int) (k : Int) (w : World) (hr : Rd w w.heap.size 1 A n (l.map (Value.int .i64))) (hl : l.length = n) (hn : n ≤ 9223372036854775807) (h : okP l = false ∨ 40 < n ∨ k < 1 ∨ 6 < k) :
    Calls Try.prog 11 #[.slice A n c, .int .i64 k] w fun e w' => e = .returned (.bool true) ∧ Below w.heap.size w w' := by
  have h1 := ref_right A n c w.heap.size l w hr hl hn
  cases hok : okP l with
  | false =>
    rw [hok] at h1
    have H1 := hide h1
    clear h1 hok hr hl h
    go_enter Try.func11, Try.ntmps11
    go_wp2_with (go_at_call 31; refine (H1.out).mono ?_; rintro e w1 ⟨rfl, rfl⟩)
    go_ret
    exact ⟨rfl, Below.refl _ _⟩
  | true =>
    rw [hok] at h1
    have H1 := hide h1
    have hc : 40 < n ∨ (n ≤ 40 ∧ k < 1) ∨ (n ≤ 40 ∧ 1 ≤ k ∧ 6 < k) := by
      rcases h with h | h
      · rw [hok] at h; cases h
      · omega
    clear h1 hok hr hl h
    rcases hc with h | ⟨h, h'⟩ | ⟨h, h', h''⟩
    all_goals
      go_enter Try.func11, Try.ntmps11
      go_wp2_with (go_at_call 31; refine (H1.out).mono ?_; rintro e w1 ⟨rfl, rfl⟩)
      go_ret
      exact ⟨rfl, Below.refl _ _⟩
end Go.Proofs.Ytalecppofemcnaa
