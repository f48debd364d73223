/-
  The walks of cumul.Right and of the document's Right.
-/
import Derived.Test.YtkgkilogjodccaaProg
import Derived.Test.YtkgkilogjodccaaBase
import Derived.Test.YtkgkilogjodccaaTabPlain
import Derived.IntWalk
import Derived.Deep.QuietTactic
import Derived.BigQuiet
namespace Go.Proofs.Ytkgkilogjodccaa
open Go.RowKit HB TabP
set_option linter.unusedVariables false
set_option linter.unusedSimpArgs false

set_option maxRecDepth 100000 in
set_option maxHeartbeats 2000000 in
theorem cumul_right (A : Option Addr) (n c B : Nat) (l : List Int) (w : World) (hr : Rd w B 1 A n (l.map (Value.int .u64))) (hl : l.length = n) (hn : n ≤ 200) :
    Calls Try.prog 21 #[.slice A n c] w fun e w' => e = .returned (.bool (right l)) ∧ w = w' := by
  have Hl := hide hl
  clear hl
  go_enter Try.func21, Try.ntmps21
  go_wp2_with fail
  go_loop [7] (fun i => ∃ k : Nat, (k ≤ n ∨ k = 0) ∧ 0 ≤ k ∧ i = .int .i64 k ∧ ∀ (i : Nat) (a b : Int), i + 1 < k → l[i]? = some a → l[i + 1]? = some b → a ≤ b) (fun i => n - (intOf i).toNat)
  case atStart => exact ⟨0, .inr rfl, Nat.le_refl _, rfl, fun i a b hi => by omega⟩
  case round =>
    obtain ⟨k, hk, hk1, rfl, hpos⟩ := hrel
    have Hp := hide hpos
    clear hpos
    by_cases hlt : k < n
    · obtain ⟨b, off, x, rfl, hb, hg, c0⟩ := hr.int_at Hl.out hlt
      have G := hide hg
      clear hg
      by_cases h0 : k = 0
      · have dk : decide ((0 : Int) < (k : Int)) = false := by simp; omega
        have dk2 : decide (0 < k) = false := by simp; omega
        have hk1' : k + 1 ≤ 1 := by omega
        clear hr hk h0
        go_wp2_with fail
        go_round
        case rel => exact ⟨k + 1, .inl (by omega), by omega, by go_num, fun i a b hi => by omega⟩
        case measure => simp [intOf]; omega
      · obtain ⟨b', off', y, hA, hb', hg', c1⟩ := hr.int_at Hl.out (show k - 1 < n by omega)
        simp only [Option.some.injEq, Addr.mk.injEq, and_true] at hA
        obtain ⟨rfl, rfl⟩ := hA
        have G' := hide hg'
        clear hg' hr hk
        have i0 : (0 : Int) ≤ (k : Int) - 1 := by omega
        have i1 : (k : Int) - 1 < (n : Int) := by omega
        have i2 : ((k : Int) - 1).toNat = k - 1 := by omega
        have hkk : k - 1 + 1 = k := by omega
        by_cases hxy : x < y
        · have ht := hide (right_fall G'.out (by rw [hkk]; exact G.out) hxy)
          go_wp2_with fail
          go_ret
          exact ⟨ret_bool ht.out.symm, rfl⟩
        · go_wp2_with fail
          go_round
          case rel =>
            refine ⟨k + 1, .inl (by omega), by omega, by go_num, fun i a b hi ha hb => ?_⟩
            rcases Nat.lt_or_ge (i + 1) k with h | h
            · exact Hp.out i a b h ha hb
            · obtain rfl : i = k - 1 := by omega
              rw [G'.out] at ha
              rw [hkk, G.out] at hb
              obtain rfl := Option.some.inj ha
              obtain rfl := Option.some.inj hb
              omega
          case measure => simp [intOf]; omega
    · have hri : Rises l := fun i a b ha hb => Hp.out i a b (by have := (List.getElem?_eq_some_iff.1 hb).1; rw [Hl.out] at this; omega) ha hb
      by_cases h0 : n = 0
      · have hln : l = [] := List.length_eq_zero_iff.1 (by rw [Hl.out, h0])
        have ht := hide (show right l = false by rw [hln]; exact right_none)
        have dn : decide ((0 : Int) < (n : Int)) = false := by simp; omega
        have dn2 : decide (0 < n) = false := by simp; omega
        clear hln hri h0 hr
        go_wp2_with fail
        go_ret
        exact ⟨ret_bool ht.out.symm, rfl⟩
      · obtain ⟨b, off, x, rfl, hb, hg, c0⟩ := hr.int_at Hl.out (show n - 1 < n by omega)
        have ht := hide (right_last (x := x) hri (by rw [Hl.out]; exact hg))
        have i0 : (0 : Int) ≤ (n : Int) - 1 := by omega
        have i1 : (n : Int) - 1 < (n : Int) := by omega
        have i2 : ((n : Int) - 1).toNat = n - 1 := by omega
        have dn : decide ((0 : Int) < (n : Int)) = true := by simp; omega
        have dn2 : decide (0 < n) = true := by simp; omega
        clear hg hri hr hk
        go_wp2_with fail
        go_ret
        exact ⟨ret_bool ht.out.symm, rfl⟩

set_option maxRecDepth 100000 in
set_option maxHeartbeats 2000000 in
theorem ref_right (A : Option Addr) (n c B : Nat) (l : List Int) (w : World) (hr : Rd w B 1 A n (l.map (Value.int .u64))) (hl : l.length = n) (hn : n ≤ 200) :
    Calls Try.prog 22 #[.slice A n c] w fun e w' => e = .returned (.bool (right l)) ∧ ∃ m, w' = w.drewN m := by
  have Hl := hide hl
  clear hl
  go_enter Try.func22, Try.ntmps22
  go_wp2_with fail
  go_loopw [3] (fun i wr => ∃ k m : Nat, (k ≤ n ∨ k = 1) ∧ 1 ≤ k ∧ i = .int .i64 k ∧ (∀ (i : Nat) (a b : Int), i + 1 < k → l[i]? = some a → l[i + 1]? = some b → a ≤ b) ∧ wr = w.drewN m) (fun i _ => n - (intOf i).toNat)
  case atStart => exact ⟨1, 0, .inr rfl, Nat.le_refl _, rfl, fun i a b hi => by omega, rfl⟩
  case round =>
    obtain ⟨k, m, hk, hk1, rfl, hpos, rfl⟩ := hrel
    have Hp := hide hpos
    clear hpos
    by_cases hlt : k < n
    · obtain ⟨b, off, x, rfl, hb, hg, c0⟩ := hr.int_at Hl.out hlt
      have G := hide hg
      clear hg
      obtain ⟨b', off', y, hA, hb', hg', c1⟩ := hr.int_at Hl.out (show k - 1 < n by omega)
      simp only [Option.some.injEq, Addr.mk.injEq, and_true] at hA
      obtain ⟨rfl, rfl⟩ := hA
      have G' := hide hg'
      clear hg' hr hk
      have i0 : (0 : Int) ≤ (k : Int) - 1 := by omega
      have i1 : (k : Int) - 1 < (n : Int) := by omega
      have i2 : ((k : Int) - 1).toNat = k - 1 := by omega
      have j0 : (0 : Int) ≤ (k : Int) := by omega
      have j1 : (k : Int) < (n : Int) := by omega
      have hkk : k - 1 + 1 = k := by omega
      by_cases hxy : x < y
      · have ht := hide (right_fall G'.out (by rw [hkk]; exact G.out) hxy)
        have iw : IntKind.i64.wrap ((k : Int) - 1) = (k : Int) - 1 := IntWalk.i64_in _ (by omega)
        go_wp2_with fail
        go_quiet (fail)
        clear iw
        go_wp2_with fail
        go_ret
        exact ⟨ret_bool ht.out.symm, _, World.drewN_drewN _ _ _⟩
      · have iw : IntKind.i64.wrap ((k : Int) - 1) = (k : Int) - 1 := IntWalk.i64_in _ (by omega)
        go_wp2_with fail
        go_quiet (fail)
        clear iw
        go_wp2_with fail
        go_roundw
        case rel =>
          refine ⟨k + 1, _, .inl (by omega), by omega, by go_num, fun i a b hi ha hb => ?_, rfl⟩
          rcases Nat.lt_or_ge (i + 1) k with h | h
          · exact Hp.out i a b h ha hb
          · obtain rfl : i = k - 1 := by omega
            rw [G'.out] at ha
            rw [hkk, G.out] at hb
            obtain rfl := Option.some.inj ha
            obtain rfl := Option.some.inj hb
            omega
        case measure => simp [intOf]; omega
    · have hri : Rises l := fun i a b ha hb => Hp.out i a b (by have := (List.getElem?_eq_some_iff.1 hb).1; rw [Hl.out] at this; omega) ha hb
      by_cases h0 : n = 0
      · have hln : l = [] := List.length_eq_zero_iff.1 (by rw [Hl.out, h0])
        have ht := hide (show right l = false by rw [hln]; exact right_none)
        have dn : decide ((0 : Int) < (n : Int)) = false := by simp; omega
        have dn2 : decide (0 < n) = false := by simp; omega
        clear hln hri h0 hr
        go_wp2_with fail
        go_ret
        exact ⟨ret_bool ht.out.symm, m, rfl⟩
      · obtain ⟨b, off, x, rfl, hb, hg, c0⟩ := hr.int_at Hl.out (show n - 1 < n by omega)
        have ht := hide (right_last (x := x) hri (by rw [Hl.out]; exact hg))
        have i0 : (0 : Int) ≤ (n : Int) - 1 := by omega
        have i1 : (n : Int) - 1 < (n : Int) := by omega
        have i2 : ((n : Int) - 1).toNat = n - 1 := by omega
        have dn : decide ((0 : Int) < (n : Int)) = true := by simp; omega
        have dn2 : decide (0 < n) = true := by simp; omega
        clear hg hri hr hk
        go_wp2_with fail
        go_ret
        exact ⟨ret_bool ht.out.symm, m, rfl⟩
end Go.Proofs.Ytkgkilogjodccaa
