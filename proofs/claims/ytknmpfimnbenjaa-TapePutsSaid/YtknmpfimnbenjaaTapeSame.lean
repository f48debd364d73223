/-
  Logs that are alike: hoistwayref37.legs, hoistwayref37.Same; the law's Great.
-/
import Derived.Test.YtknmpfimnbenjaaTapePut
import Derived.BigQuiet
namespace Go.Proofs.Ytknmpfimnbenjaa
open Go.RowKit HB PackP TapeP
set_option linter.unusedVariables false
set_option linter.unusedSimpArgs false
theorem two_boxes (w : World) (a b c d e f : Value) (ty ty' : TypeId) : Lc ((w.alloc (.cells #[a, b, c] ty)).alloc (.cells #[d, e, f] ty')) w.heap.size a b c ∧ Lc ((w.alloc (.cells #[a, b, c] ty)).alloc (.cells #[d, e, f] ty')) (w.heap.size + 1) d e f := by
  have hz : (w.alloc (.cells #[a, b, c] ty)).heap.size = w.heap.size + 1 := by simp
  have h := Lc.new (w.alloc (.cells #[a, b, c] ty)) d e f ty'
  rw [hz] at h
  exact ⟨(Lc.new w a b c ty).below ((Below.refl _ _).alloc (Nat.le_refl _) _) (by rw [hz]; omega), h⟩
set_option maxRecDepth 100000 in
set_option maxHeartbeats 2000000 in
theorem ref_legs (A A' : Option Addr) (n c c' B B' : Nat) (l : List Lg) (w : World) (hx : Rd w B 4 A n (l.flatMap lc)) (hy : Rd w B' 4 A' n (l.flatMap lc)) (hl : l.length = n) (hn : n ≤ 1000000) :
    Calls Try.prog 60 #[.slice A n c, .slice A' n c'] w fun e w' => e = .returned (.bool true) ∧ ∃ m, w' = w.drewN m := by
  have Hl := hide hl
  clear hl
  have hneq : ((n : Int) != (n : Int)) = false := by simp
  go_enter Try.func60, Try.ntmps60
  go_wp2_with fail
  go_loopw [5] (fun i wr => ∃ k m : Nat, k ≤ n ∧ i = .int .i64 k ∧ wr = w.drewN m) (fun i _ => n - (intOf i).toNat)
  case atStart => exact ⟨0, 0, Nat.zero_le _, rfl, rfl⟩
  case round =>
    obtain ⟨k, m, hk, rfl, rfl⟩ := hrel
    by_cases hlt : k < n
    · obtain ⟨b, off, g, rfl, hb, hg, c0, c1, c2, c3⟩ := legs_at hx Hl.out hlt
      obtain ⟨b', off', g', rfl, hb', hg', d0, d1, d2, d3⟩ := legs_at hy Hl.out hlt
      have hgg : g' = g := by rw [hg] at hg'; injection hg' with h; exact h.symm
      subst hgg
      have i0 : (0 : Int) ≤ (k : Int) := by omega
      have i1 : (k : Int) < (n : Int) := by omega
      clear hg hg' hx hy
      go_wp2_with fail
      go_quiet (fail)
      go_wp2_with fail
      go_roundw
      case rel => exact ⟨k + 1, _, by omega, by go_num, rfl⟩
      case measure => simp [intOf]; omega
    · obtain rfl : k = n := by omega
      go_wp2_with fail
      go_ret
      exact ⟨rfl, m, rfl⟩
set_option maxRecDepth 100000 in
set_option maxHeartbeats 4000000 in
theorem ref_same (A A' C C' : Option Addr) (n c n' c' d d' B : Nat) (x : Lo) (w : World) (hT : Trs w B A n x.ts) (hL : Lgs w B A' n' x.ls) (hT2 : Trs w B C n x.ts) (hL2 : Lgs w B C' n' x.ls) (hB : B ≤ w.heap.size) (hn : n ≤ 900000) (hn' : n' ≤ 900000) (hrow : ∀ l ∈ x.ls, l.length ≤ 1000000) :
    Calls Try.prog 34 #[.agg #[.slice A n c, .slice A' n' c', .int .i64 x.u], .agg #[.slice C n d, .slice C' n' d', .int .i64 x.u]] w fun e w' => e = .returned (.bool true) ∧ Below w.heap.size w w' := by
  have HT := hide hT
  have HL := hide hL
  have HT2 := hide hT2
  have HL2 := hide hL2
  have HROW := hide hrow
  clear hT hL hT2 hL2 hrow
  have hnq : ((n : Int) != (n : Int)) = false := by simp
  have hnq' : ((n' : Int) != (n' : Int)) = false := by simp
  have huq : ((x.u : Int) != x.u) = false := by simp
  go_enter Try.func34, Try.ntmps34
  go_wp2_with fail
  go_loopw [5] (fun i wr => ∃ k m : Nat, k ≤ n ∧ i = .int .i64 k ∧ Below w.heap.size w wr ∧ w.heap.size + 1 < wr.heap.size ∧ Lc wr w.heap.size (.slice A n c) (.slice A' n' c') (.int .i64 x.u) ∧ Lc wr (w.heap.size + 1) (.slice C n d) (.slice C' n' d') (.int .i64 x.u)) (fun i _ => n - (intOf i).toNat)
  case atStart => exact ⟨0, 0, Nat.zero_le _, rfl, by go_grown, by simp, two_boxes _ _ _ _ _ _ _ _ _⟩
  case round =>
    obtain ⟨k, m, hk, rfl, hb0, hz0, hl1, hl2⟩ := hrel
    have HB0 := hide hb0
    have HL1 := hide hl1
    have HLL := hide hl2
    obtain ⟨e0, e1, e2⟩ := hl1
    obtain ⟨f0, f1, f2⟩ := hl2
    by_cases hlt : k < n
    · obtain ⟨b, off, t, hA, hb, hg, c0, c1, c2, c3, c4, c5, c6⟩ := (HT.out.below (hb0.mono hB)).at_ hlt
      obtain ⟨b', off', t', hA', hb', hg', d0, d1, d2, d3, d4, d5, d6⟩ := (HT2.out.below (hb0.mono hB)).at_ hlt
      have htt : t' = t := by rw [hg] at hg'; injection hg' with h; exact h.symm
      subst htt
      subst hA
      subst hA'
      have i0 : (0 : Int) ≤ (k : Int) := by omega
      have i1 : (k : Int) < (n : Int) := by omega
      clear hg hg' hb0
      go_wp2_with fail
      go_quiet (fail)
      go_wp2_with fail
      go_roundw
      case rel => exact ⟨k + 1, 0, by omega, by go_num, below_drewN HB0.out _, hz0, ⟨HL1.out.1, HL1.out.2, HL1.out.3⟩, ⟨HLL.out.1, HLL.out.2, HLL.out.3⟩⟩
      case measure => simp [intOf]; omega
    · obtain rfl : k = n := by omega
      clear hb0
      go_wp2_with fail
      go_loopw [6] (fun i wq => ∃ (k' : Nat), k' ≤ n' ∧ i = .int .i64 k' ∧ Below w.heap.size w wq ∧ w.heap.size + 1 < wq.heap.size ∧ Lc wq w.heap.size (.slice A k c) (.slice A' n' c') (.int .i64 x.u) ∧ Lc wq (w.heap.size + 1) (.slice C k d) (.slice C' n' d') (.int .i64 x.u)) (fun i _ => n' - (intOf i).toNat)
      case atStart => exact ⟨0, Nat.zero_le _, rfl, HB0.out, hz0, HL1.out, HLL.out⟩
      case round =>
        obtain ⟨k', hk', rfl, hb1, hz1, hm1, hm2⟩ := hrel
        clear e0 e1 e2 f0 f1 f2 HB0 HL1 HLL
        have HB0 := hide hb1
        have HL1 := hide hm1
        have HLL := hide hm2
        obtain ⟨e0, e1, e2⟩ := hm1
        obtain ⟨f0, f1, f2⟩ := hm2
        by_cases hlt' : k' < n'
        · obtain ⟨b, off, A2, n2, c2, l, hA, hb, hg, c0, hrd, hll, -⟩ := (HL.out.below (hb1.mono hB)).at_ hlt'
          obtain ⟨b', off', A3, n3, c3, l', hA', hb', hg', d0, hrd', hll', -⟩ := (HL2.out.below (hb1.mono hB)).at_ hlt'
          have htt : l' = l := by rw [hg] at hg'; injection hg' with h; exact h.symm
          subst htt
          obtain rfl : n2 = n3 := by omega
          subst hA
          subst hA'
          have hr2 := HROW.out _ (List.mem_of_getElem? hg)
          have HRD := hide hrd
          have HRD' := hide hrd'
          have HLEN := hide hll
          have hn2 : n2 ≤ 1000000 := by omega
          have i0 : (0 : Int) ≤ (k' : Int) := by omega
          have i1 : (k' : Int) < (n' : Int) := by omega
          clear hg hg' hb1 hrd hrd' hll hll' hr2
          go_wp2_with fail
          go_quiet ((go_at_call 60; exact Calls.quiet_of (v := .bool true) (ref_legs A2 A3 n2 c2 c3 B B l' _ (HRD.out.drewN _) (HRD'.out.drewN _) HLEN.out hn2)))
          go_wp2_with fail
          go_roundw
          case rel => exact ⟨k' + 1, by omega, by go_num, below_drewN HB0.out _, hz1, ⟨HL1.out.1, HL1.out.2, HL1.out.3⟩, ⟨HLL.out.1, HLL.out.2, HLL.out.3⟩⟩
          case measure => simp [intOf]; omega
        · obtain rfl : k' = n' := by omega
          go_wp2_with fail
          go_ret
          exact ⟨rfl, HB0.out⟩
end Go.Proofs.Ytknmpfimnbenjaa
