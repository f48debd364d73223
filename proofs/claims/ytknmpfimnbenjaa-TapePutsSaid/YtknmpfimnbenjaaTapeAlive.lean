/-
  The law's alive.
-/
import Derived.Test.YtknmpfimnbenjaaTapeRead
import Derived.Test.YtknmpfimnbenjaaTapePut
import Derived.Test.YtknmpfimnbenjaaEqB
namespace Go.Proofs.Ytknmpfimnbenjaa
open Go.RowKit HB PackP TapeP
set_option linter.unusedVariables false
set_option linter.unusedSimpArgs false
abbrev Lo.nil : Lo := ⟨[], [], 0⟩
theorem pB_nil : pB Lo.nil = [0, 0, 0] := by
  have h : put 0 = [0] := put_small (by decide)
  show put (fold 0) ++ (put 0 ++ ([] ++ (put 0 ++ []))) = _
  rw [show fold 0 = 0 from rfl, h]; rfl
theorem ok_nil : Lo.nil.ok := ⟨by show (_ : Int) ≤ 0 ∧ (0 : Int) ≤ _; omega, fun t h => by simp at h, fun t h => by simp at h⟩
theorem log_four : rLog [0, 0, 0] = Lo.nil ∧ fin [0, 0, 0] = ([], false) := by
  have h := log_put ok_nil (by simp) (by simp) (fun c h => by simp at h)
  rw [pB_nil] at h
  exact h
theorem read_four (A : Option Addr) (c B : Nat) (w : World) (hr : Rd w B 1 A 4 ([76, 0, 0, 0].map (Value.int .u8))) (hB : B ≤ w.heap.size) (hc : 4 ≤ c) :
    Calls Try.prog 32 #[.slice A 4 c] w fun e w' => (∃ A1 c1 A2 c2, e = .returned (.tuple #[.agg #[.slice A1 0 c1, .slice A2 0 c2, .int .i64 0], .int .i64 0])) ∧ Below w.heap.size w w' := by
  refine (tape_read A 4 c B [76, 0, 0, 0] w hr hB rfl hc (by omega) (by intro x hx; simp at hx; omega)).mono ?_
  rintro e w' ⟨hb, h⟩
  refine ⟨?_, hb⟩
  rcases h with ⟨b', hb', -, -, A1, n1, c1, A2, n2, c2, rfl, hT, hL, -, -⟩ | ⟨hng, -⟩
  · injection hb' with _ hb'
    subst hb'
    rw [log_four.1] at hT hL ⊢
    have h1 := hT.2
    have h2 := hL.len
    simp at h1 h2
    subst h1
    subst h2
    exact ⟨_, _, _, _, rfl⟩
  · exact absurd ⟨[0, 0, 0], rfl, by rw [log_four.2], by rw [log_four.2]⟩ hng
theorem put_nil (w : World) : Calls Try.prog 33 #[.agg #[.slice none 0 0, .slice none 0 0, .int .i64 0]] w fun e w' => (∃ A c, e = .returned (.slice A 4 c) ∧ Rd w' w'.heap.size 1 A 4 ([76, 0, 0, 0].map (Value.int .u8))) ∧ Below w.heap.size w w' := by
  refine (tape_put none none 0 0 0 0 0 Lo.nil w (Trs.nil _ _ _) (Lgs.nil _ _ _) (Nat.zero_le _) ok_nil (by rw [pB_nil]; simp) (by omega) (by omega)).mono ?_
  rintro e w' ⟨⟨v, rfl, ho⟩, hb⟩
  rw [pB_nil] at ho
  obtain ⟨A, c, rfl, -, hr⟩ := Own.shape ho
  rw [map_flat] at hr
  exact ⟨⟨A, c, rfl, hr⟩, hb⟩
set_option maxRecDepth 100000 in
set_option maxHeartbeats 2000000 in
theorem law_alive37 (w : World) : Calls Try.prog 35 #[] w fun e w' => e = .returned (.bool true) ∧ Below w.heap.size w w' := by
  have HRD := hide (read_four (some ⟨w.heap.size, 0, none⟩) 4 (w.heap.size + 1) (w.alloc (.cells #[.int .u8 76, .int .u8 0, .int .u8 0, .int .u8 0] 5)) (Rd.new w 5 (xs := [.int .u8 76, .int .u8 0, .int .u8 0, .int .u8 0]) rfl) (by simp) (by omega))
  go_enter Try.func35, Try.ntmps35
  go_wp2_with (first
    | (go_at_call 13; refine (HEQ.out).mono ?_; rintro e w3 ⟨rfl, m, rfl⟩)
    | (go_at_call 33; refine (put_nil _).mono ?_; rintro e w2 ⟨⟨A3, c3, rfl, hr3⟩, hb2⟩; have d0 := (hb2.cell (p := ⟨w1.heap.size, 0, none⟩) (by simp)).trans (Lc.new _ _ _ _ _).c0; have hw12 : w1.heap.size < w2.heap.size := (by have h := hb2.size; rw [World.size_alloc] at h; exact h); have HEQ := hide (eqB A3 (some ⟨w2.heap.size, 0, none⟩) 4 4 c3 4 w2.heap.size (w2.heap.size + 1) [76, 0, 0, 0] [76, 0, 0, 0] (w2.alloc (.cells #[.int .u8 76, .int .u8 0, .int .u8 0, .int .u8 0] 5)) (hr3.alloc (Nat.le_refl _) _) (Rd.new w2 5 (xs := [.int .u8 76, .int .u8 0, .int .u8 0, .int .u8 0]) rfl) (by omega) (by omega)); clear hr3)
    | (go_at_call 32; refine (HRD.out).mono ?_; rintro e w1 ⟨⟨A1, c1, A2, c2, rfl⟩, hb1⟩))
  go_ret
  refine ⟨ret_bool (by simp), ?_⟩
  have h1 := ((Below.refl w.heap.size w).alloc (Nat.le_refl _) (.cells #[.int .u8 76, .int .u8 0, .int .u8 0, .int .u8 0] 5)).trans (hb1.mono (by simp))
  have hz1 := h1.size
  have h2 := (h1.alloc hz1 (.cells #[.slice A1 0 c1, .slice A2 0 c2, .int .i64 0] 57)).trans (hb2.mono (by simp; omega))
  exact below_drewN (h2.alloc h2.size _) _
end Go.Proofs.Ytknmpfimnbenjaa
