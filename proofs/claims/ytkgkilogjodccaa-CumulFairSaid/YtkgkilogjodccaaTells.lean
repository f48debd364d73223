/-
  The walk of cumul.Mean.
-/
import Derived.Test.YtkgkilogjodccaaShare
import Derived.Test.YtkgkilogjodccaaTabR
namespace Go.Proofs.Ytkgkilogjodccaa
open Go.RowKit HB TabP
set_option linter.unusedVariables false
set_option linter.unusedSimpArgs false
namespace TellP
def dif (l : List Int) (i : Nat) : Int := if i = 0 then l.getD 0 0 else (l.getD i 0 - l.getD (i - 1) 0) % 18446744073709551616
def mn (l : List Int) : Nat → Int
  | 0 => 0
  | i + 1 => (mn l i + (i : Int) * dif l i % 18446744073709551616) % 18446744073709551616
def sh (l : List Int) (i : Int) : Int := if i < 0 ∨ (l.length : Int) ≤ i then 0 else dif l i.toNat
theorem mn_range (l : List Int) : ∀ i, 0 ≤ mn l i ∧ mn l i ≤ 18446744073709551615
  | 0 => by simp [mn]
  | i + 1 => by simp only [mn]; omega
theorem dif_zero {l : List Int} {x : Int} (h : l[0]? = some x) : dif l 0 = x := by simp [dif, List.getD, h]
theorem dif_next {l : List Int} {i : Nat} {x p : Int} (hi : 1 ≤ i) (h : l[i]? = some x) (h' : l[i - 1]? = some p) : dif l i = (x - p) % 18446744073709551616 := by
  unfold dif; rw [if_neg (by omega)]; simp [List.getD, h, h']
end TellP
open TellP

theorem cum_share_any (A : Option Addr) (n c B : Nat) (l : List Int) (w : World) (hr : Rd w B 1 A n (l.map (Value.int .u64))) (hl : l.length = n) (hn : n ≤ 1000) (i : Int) :
    Calls Try.prog 23 #[.slice A n c, .int .i64 i] w fun e w' => e = .returned (.int .u64 (sh l i)) ∧ ∃ m, w' = w.drewN m := by
  by_cases h : i < 0 ∨ (n : Int) ≤ i
  · refine (cum_share_no A n c i w h).mono ?_
    rintro e w' ⟨rfl, rfl⟩
    exact ⟨by unfold sh; rw [hl, if_pos h], 0, rfl⟩
  · obtain ⟨j, rfl⟩ := Int.eq_ofNat_of_zero_le (show 0 ≤ i by omega)
    have hs : sh l j = dif l j := by unfold sh; rw [hl, if_neg h]; rfl
    rw [hs]
    have hj : j < n := by omega
    have hx : l[j]? = some (l[j]'(by omega)) := List.getElem?_eq_getElem _
    generalize l[j]'(by omega) = x at hx
    rcases Nat.eq_zero_or_pos j with h0 | h0
    · subst h0
      refine (cum_share_zero A n c B l w hr hl hn x hx).mono ?_
      rintro e w' ⟨rfl, rfl⟩
      exact ⟨by rw [dif_zero hx], 0, rfl⟩
    · have hp : l[j - 1]? = some (l[j - 1]'(by omega)) := List.getElem?_eq_getElem _
      generalize l[j - 1]'(by omega) = p at hp
      exact cum_share_next A n c B l w hr hl hn j h0 x p (dif l j) hx hp (by rw [dif_next h0 hx hp, IntKind.wrap_u64])

set_option maxRecDepth 100000 in
set_option maxHeartbeats 2000000 in
theorem cum_mean (A : Option Addr) (n c B : Nat) (l : List Int) (w : World) (hr : Rd w B 1 A n (l.map (Value.int .u64))) (hl : l.length = n) (hn : n ≤ 1000) :
    Calls Try.prog 24 #[.slice A n c] w fun e w' => e = .returned (.int .u64 (mn l n)) ∧ ∃ m, w' = w.drewN m := by
  have HL := hide hl
  have HR := hide hr
  clear hl hr
  go_enter Try.func24, Try.ntmps24
  go_wp2_with fail
  go_loopw [3, 7] (fun s i wr => ∃ j m : Nat, j ≤ n ∧ i = .int .i64 j ∧ s = .int .u64 (mn l j) ∧ wr = w.drewN m) (fun _ i _ => n - (intOf i).toNat)
  case atStart => exact ⟨0, 0, Nat.zero_le _, rfl, rfl, rfl⟩
  case round =>
    obtain ⟨j, m, hj, rfl, rfl, rfl⟩ := hrel
    have hm := mn_range l j
    have hm0 := hm.1
    have hm1 := hm.2
    clear hm
    by_cases hlt : j < n
    · have hn2 : Hid (mn l (j + 1) = (mn l j + (j : Int) * sh l j % 18446744073709551616) % 18446744073709551616) := hide (by
        have : sh l j = dif l j := by unfold sh; rw [HL.out, if_neg (by omega)]; rfl
        rw [this]; rfl)
      generalize mn l j = s at *
      go_wp2_with fail
      refine (cum_share_any A n c B l _ (HR.out.drewN m) HL.out hn j).mono ?_; rintro e w' ⟨rfl, d, rfl⟩
      generalize sh l j = y at *
      go_wp2_with fail
      go_roundw
      case rel => exact ⟨j + 1, m + d, by omega, by go_num, by rw [hn2.out, IntKind.wrap_u64, IntKind.wrap_u64], rfl⟩
      case measure => simp [intOf]; omega
    · obtain rfl : j = n := by omega
      generalize hs : mn l j = s at *
      have HS := hide hs
      clear hs
      go_wp2_with fail
      go_ret
      exact ⟨by rw [HS.out]; rfl, m, rfl⟩
end Go.Proofs.Ytkgkilogjodccaa
