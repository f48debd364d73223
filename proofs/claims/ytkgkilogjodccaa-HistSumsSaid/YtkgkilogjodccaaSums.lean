/-
  The walks of pulse.Sums and pulse.Peak.
-/
import Derived.Test.YtkgkilogjodccaaProg
import Derived.Test.YtkgkilogjodccaaOwn
import Derived.Test.YtkgkilogjodccaaEqInt
import Derived.Test.YtkgkilogjodccaaSumsPlain
namespace Go.Proofs.Ytkgkilogjodccaa
open Go.RowKit HB SumsP
set_option linter.unusedVariables false
set_option linter.unusedSimpArgs false

theorem Sums.info : (Try.prog.info? 3).map (fun i => (i.zero, i.size, i.bytes)) = some (some (.int .i64 0), 1, 8) := by kernel_rfl
theorem Sums.w_add (a b : Int) : wrap64 (wrap64 a + b) = wrap64 (a + b) := by unfold wrap64; omega
theorem Sums.w_sub (a b : Int) : wrap64 (wrap64 a - b) = wrap64 (a - b) := by unfold wrap64; omega
theorem Sums.w_range (a : Int) : -9223372036854775808 ≤ wrap64 a ∧ wrap64 a ≤ 9223372036854775807 := by unfold wrap64; omega

/-- What Sums answers. -/
def Sums.of (l : List Int) (k : Int) : List Int := if k < 1 then [] else wins wrap64 l k.toNat l.length
theorem Sums.of_none (l : List Int) (k : Int) (h : k < 1 ∨ (l.length : Int) < k) : Sums.of l k = [] := by
  unfold Sums.of
  split
  · rfl
  · unfold wins; rw [show l.length + 1 - k.toNat = 0 from by omega]; rfl
theorem Sums.of_some (l : List Int) (k : Nat) (h : 1 ≤ k) : Sums.of l k = wins wrap64 l k l.length := by unfold Sums.of; rw [if_neg (by omega)]; rfl

def Sums.Rel (l : List Int) (k : Nat) (w : World) (s o i : Value) (wr : World) : Prop :=
  ∃ j : Nat, j ≤ l.length ∧ i = .int .i64 j ∧ s = .int .i64 (wrap64 (pre l j - pre l (j - k))) ∧ Own wr w.heap.size 3 1 (num .i64) o (wins wrap64 l k j) ∧ Below w.heap.size w wr
def Sums.Post (l : List Int) (k : Int) (w : World) (e : Ending) (w' : World) : Prop :=
  ∃ v, e = .returned v ∧ Own w' w.heap.size 3 1 (num .i64) v (Sums.of l k) ∧ Below w.heap.size w w'

set_option maxRecDepth 100000 in
set_option maxHeartbeats 2000000 in
theorem sums_any (A : Option Addr) (n c B : Nat) (l : List Int) (k : Int) (w : World) (hr : Rd w B 1 A n (l.map (Value.int .i64))) (hB : B ≤ w.heap.size) (hl : l.length = n) (hn : n ≤ 100) :
    Calls Try.prog 39 #[.slice A n c, .int .i64 k] w (Sums.Post l k w) := by
  have Hl := hide hl
  by_cases h1 : k < 1
  · have e := Sums.of_none l k (.inl h1)
    have E := hide e
    clear e hl
    go_enter Try.func39, Try.ntmps39
    go_wp2_with fail
    go_ret
    exact ⟨_, rfl, by rw [E.out]; exact Own.nil _ _ _ _ _, Below.refl _ _⟩
  by_cases h2 : (n : Int) < k
  · have e := Sums.of_none l k (.inr (by omega))
    have E := hide e
    clear e hl
    go_enter Try.func39, Try.ntmps39
    go_wp2_with fail
    go_ret
    exact ⟨_, rfl, by rw [E.out]; exact Own.nil _ _ _ _ _, Below.refl _ _⟩
  obtain ⟨k, rfl⟩ := Int.eq_ofNat_of_zero_le (show 0 ≤ k by omega)
  have hk1 : 1 ≤ k := by omega
  have hkn : k ≤ n := by omega
  have E := hide (Sums.of_some l k hk1)
  have d1 : decide ((k : Int) < 1) = false := by simp; omega
  have d2 : decide ((n : Int) < (k : Int)) = false := by simp; omega
  have d3 : decide (n < k) = false := by simp; omega
  have d4 : decide (k < 1) = false := by simp; omega
  clear h1 h2 hl
  go_enter Try.func39, Try.ntmps39
  go_wp2_with fail
  go_loopw [5, 6, 19] (fun s o i wr => Sums.Rel l k w s o i wr) (fun _ _ i _ => n - (intOf i).toNat)
  case atStart =>
    refine ⟨0, Nat.zero_le _, rfl, ?_, ?_, Below.refl _ _⟩
    · rw [Nat.zero_sub, pre_zero, show wrap64 (0 - 0) = 0 from by unfold wrap64; omega]
    · unfold wins; rw [show 0 + 1 - k = 0 from by omega]; exact Own.nil _ _ _ _ _
  case round =>
    obtain ⟨j, hj, rfl, rfl, hown, hbel⟩ := hrel
    rw [Hl.out] at hj
    have hz := hbel.size
    have hL : (wins wrap64 l k j).length ≤ 1000000000 := by rw [wins_length]; omega
    have HO := hide hown
    clear hown
    by_cases hlt : j < n
    · obtain ⟨b, off, x, rfl, hb, hg, c0⟩ := (hr.below (hbel.mono hB)).int_at Hl.out hlt
      have hp := hide (pre_succ hg)
      generalize hs : wrap64 (pre l j - pre l (j - k)) = s
      have HS := hide hs
      clear hg hs
      by_cases hjk : k ≤ j
      · obtain ⟨b', off', y, hA, hb', hg', c1⟩ := (hr.below (hbel.mono hB)).int_at Hl.out (show j - k < n by omega)
        simp only [Option.some.injEq, Addr.mk.injEq, and_true] at hA
        obtain ⟨rfl, rfl⟩ := hA
        have hp' := hide (pre_succ hg')
        clear hg' hr
        have i0 : (0 : Int) ≤ (j : Int) - (k : Int) := by omega
        have i1 : (j : Int) - (k : Int) < (n : Int) := by omega
        have i2 : ((j : Int) - (k : Int)).toNat = j - k := by omega
        have hval : wrap64 (wrap64 (s + x) - y) = wrap64 (pre l (j + 1) - pre l (j + 1 - k)) := by
          rw [Sums.w_sub, ← HS.out, show wrap64 (pre l j - pre l (j - k)) + x - y = wrap64 (pre l j - pre l (j - k)) + (x - y) from by omega, Sums.w_add, hp.out, show j + 1 - k = j - k + 1 from by omega, hp'.out]
          congr 1; omega
        have HV := hide hval
        clear hval
        go_wp2_with (at_builtin; refine push rfl _ _ 35 rfl Try.underlying35 Sums.info rfl (by omega) (by omega) rfl (HO.out.alloc _) (wrap64 (wrap64 (s + x) - y)) ⟨_, 0, none⟩ 1 rfl rfl (cell_one_new _ _ _) (by simp [Value.oneCell']) hL (Nat.le_trans hz (by simp)) ?_; intro v' w1 hown1 hb1)
        go_roundw
        case rel => exact ⟨j + 1, by rw [Hl.out]; omega, by go_num, by rw [HV.out], by rw [wins_more wrap64 l k j hk1 (by omega), ← HV.out]; exact hown1, (hbel.alloc hz _).trans hb1⟩
        case measure => simp [intOf]; omega
      · have hval : wrap64 (s + x) = wrap64 (pre l (j + 1) - pre l (j + 1 - k)) := by
          rw [← HS.out, Sums.w_add, hp.out, show j + 1 - k = 0 from by omega, show j - k = 0 from by omega]
          congr 1; omega
        have HV := hide hval
        clear hval
        by_cases hje : k ≤ j + 1
        · go_wp2_with (at_builtin; refine push rfl _ _ 35 rfl Try.underlying35 Sums.info rfl (by omega) (by omega) rfl (HO.out.alloc _) (wrap64 (s + x)) ⟨_, 0, none⟩ 1 rfl rfl (cell_one_new _ _ _) (by simp [Value.oneCell']) hL (Nat.le_trans hz (by simp)) ?_; intro v' w1 hown1 hb1)
          go_roundw
          case rel => exact ⟨j + 1, by rw [Hl.out]; omega, by go_num, by rw [HV.out], by rw [wins_more wrap64 l k j hk1 hje, ← HV.out]; exact hown1, (hbel.alloc hz _).trans hb1⟩
          case measure => simp [intOf]; omega
        · go_wp2_with fail
          go_roundw
          case rel => exact ⟨j + 1, by rw [Hl.out]; omega, by go_num, by rw [HV.out], by rw [wins_less wrap64 l k j (by omega)]; exact HO.out, hbel⟩
          case measure => simp [intOf]; omega
    · have hje : j = l.length := by rw [Hl.out]; omega
      have HJ := hide hje
      clear hje
      go_wp2_with fail
      go_ret
      exact ⟨_, rfl, by rw [E.out, ← HJ.out]; exact HO.out, hbel⟩

def Peak.Post (l : List Int) (k : Int) (w : World) (e : Ending) (w' : World) : Prop :=
  ∃ (a m : Int), e = .returned (.tuple #[.int .i64 (max a 0), .int .i64 m, .bool (decide (0 ≤ a))]) ∧ Best (Sums.of l k) (Sums.of l k).length a m ∧ Below w.heap.size w w'
set_option maxRecDepth 100000 in
set_option maxHeartbeats 2000000 in
theorem peak_any (A : Option Addr) (n c B : Nat) (l : List Int) (k : Int) (w : World) (hr : Rd w B 1 A n (l.map (Value.int .i64))) (hB : B ≤ w.heap.size) (hl : l.length = n) (hn : n ≤ 100) :
    Calls Try.prog 38 #[.slice A n c, .int .i64 k] w (Peak.Post l k w) := by
  have Hl := hide hl
  clear hl
  go_enter Try.func38, Try.ntmps38
  go_wp2_with fail
  refine (sums_any A n c B l k _ hr hB Hl.out hn).mono ?_; rintro e w1 ⟨v, rfl, hown, hb1⟩
  have hlen : (Sums.of l k).length ≤ 101 := by
    unfold Sums.of; split
    · simp
    · rw [wins_length, Hl.out]; omega
  obtain ⟨A1, c1, rfl, hc1, hrd⟩ := hown.ints
  generalize hS : Sums.of l k = S at *
  have HS := hide hS
  have HR := hide hrd
  clear hS hown hr hrd
  generalize hm : S.length = m at *
  have Hm := hide hm
  clear hm
  go_wp2_with fail
  go_loop [7, 8, 15] (fun a b i => ∃ (j : Nat) (at_ most : Int), j ≤ m ∧ i = .int .i64 j ∧ a = .int .i64 at_ ∧ b = .int .i64 most ∧ Best S j at_ most) (fun _ _ i => m - (intOf i).toNat)
  case atStart => exact ⟨0, -1, 0, Nat.zero_le _, rfl, rfl, rfl, .inl ⟨rfl, rfl, rfl⟩⟩
  case round =>
    obtain ⟨j, at_, most, hj, rfl, rfl, rfl, hbest⟩ := hrel
    have HB := hide hbest
    clear hbest
    by_cases hlt : j < m
    · obtain ⟨b, off, x, rfl, hb, hg, c0⟩ := HR.out.int_at Hm.out hlt
      have HG := hide hg
      clear hg
      by_cases hgt : at_ < 0 ∨ most < x
      · have hn2 := hide (HB.out.next HG.out hgt)
        rcases (show at_ < 0 ∨ (0 ≤ at_ ∧ most < x) by omega) with h | ⟨h, h'⟩
        all_goals
          clear hgt
          go_wp2_with fail
          go_round
          case rel => exact ⟨j + 1, j, x, by omega, by go_num, rfl, rfl, hn2.out⟩
          case measure => simp [intOf]; omega
      · have hs2 := hide (HB.out.stay HG.out hgt)
        have h1 : 0 ≤ at_ := by omega
        have h2 : x ≤ most := by omega
        clear hgt
        go_wp2_with fail
        go_round
        case rel => exact ⟨j + 1, at_, most, by omega, by go_num, rfl, rfl, hs2.out⟩
        case measure => simp [intOf]; omega
    · obtain rfl : j = m := by omega
      go_wp2_with fail
      go_ret3
      exact ⟨at_, most, rfl, by rw [HS.out, Hm.out]; exact HB.out, hb1⟩
end Go.Proofs.Ytkgkilogjodccaa
