/-
  The law CumulTells holds: whatever the row and the place, the call returns true and turns nothing. No condition.
-/
import Derived.Test.YtkgkilogjodccaaRows
import Derived.Test.YtkgkilogjodccaaFrame
import Derived.Test.YtkgkilogjodccaaTells
import Derived.Test.YtkgkilogjodccaaCumAlive
namespace Go.Proofs.Ytkgkilogjodccaa
open Go.ChangeShapes Go.WideShapes Go.ChangeAt Go.RowKit HB TabP TellP
set_option linter.unusedVariables false
set_option linter.unusedSimpArgs false

def wantOf (l : List Int) (i : Int) (j : Nat) : Int := if 0 ≤ i ∧ i < (j : Int) then dif l i.toNat else 0
theorem wantOf_stay (l : List Int) {i : Int} {j : Nat} (h : ¬ (j : Int) = i) : wantOf l i (j + 1) = wantOf l i j := by
  unfold wantOf
  by_cases h' : 0 ≤ i ∧ i < (j : Int)
  · rw [if_pos (by omega), if_pos h']
  · rw [if_neg (by omega), if_neg h']
set_option maxRecDepth 100000 in
set_option maxHeartbeats 4000000 in
theorem cumulTells_walk (A : Option Addr) (n c : Nat) (l : List Int) (i : Int) (w : World) (hr : Rd w w.heap.size 1 A n (l.map (Value.int .u64))) (hl : l.length = n) (hw : ∀ x ∈ l, (Lit.int .u64 x).wf = true) :
    Calls Try.prog 4 #[.slice A n c, .int .i64 i] w fun e w' => e = .returned (.bool true) ∧ Below w.heap.size w w' := by
  by_cases hbig : 200 < n
  · clear hl hw hr
    go_enter Try.func4, Try.ntmps4
    go_wp2_with fail
    go_ret
    exact ⟨rfl, Below.refl _ _⟩
  have hn : n ≤ 200 := by omega
  clear hbig
  have HL := hide hl
  have HR := hide hr
  have HW := hide hw
  clear hl hr hw
  go_enter Try.func4, Try.ntmps4
  go_wp2_with fail
  go_loop [5, 6, 7] (fun t s k => ∃ j : Nat, j ≤ n ∧ k = .int .i64 j ∧ t = .int .u64 (wantOf l i j) ∧ s = .int .u64 (mn l j)) (fun _ _ k => n - (intOf k).toNat)
  case atStart => exact ⟨0, Nat.zero_le _, rfl, by unfold wantOf; rw [if_neg (by omega)], rfl⟩
  case round =>
    obtain ⟨j, hj, rfl, rfl, rfl⟩ := hrel
    have hm := mn_range l j
    have hm0 := hm.1
    have hm1 := hm.2
    clear hm
    by_cases hlt : j < n
    · have hn2 : Hid (mn l (j + 1) = (mn l j + (j : Int) * dif l j % 18446744073709551616) % 18446744073709551616) := hide rfl
      obtain ⟨b, off, x, rfl, hb, hg, c0⟩ := HR.out.int_at HL.out hlt
      have hx := bounds_u64 (HW.out x (List.mem_of_getElem? hg))
      have hx0 := hx.1
      have hx1 := hx.2
      clear hx
      by_cases hz : j = 0
      · have hd : Hid (dif l j = x) := hide (by subst hz; exact dif_zero hg)
        have dz : decide ((0 : Int) < (j : Int)) = false := by simp; omega
        have dz2 : decide (0 < j) = false := by simp; omega
        clear hz hg
        generalize mn l j = s at *
        by_cases hin : (j : Int) = i
        · have b1 : ((j : Int) == i) = true := by simpa using hin
          have hw : Hid (wantOf l i (j + 1) = x) := hide (by unfold wantOf; rw [if_pos (by omega), show i.toNat = j by omega, hd.out])
          clear hin
          generalize wantOf l i j = wv at *
          go_wp2_with fail
          go_round
          case rel => exact ⟨j + 1, by omega, by go_num, by rw [hw.out]; (try simp only [IntKind.wrap_u64]), by rw [hn2.out, hd.out]; (try simp only [IntKind.wrap_u64])⟩
          case measure => simp [intOf]; omega
        · have b1 : ((j : Int) == i) = false := by simpa using hin
          have hw : Hid (wantOf l i (j + 1) = wantOf l i j) := hide (wantOf_stay l hin)
          clear hin
          generalize wantOf l i j = wv at *
          go_wp2_with fail
          go_round
          case rel => exact ⟨j + 1, by omega, by go_num, by rw [hw.out], by rw [hn2.out, hd.out]; (try simp only [IntKind.wrap_u64])⟩
          case measure => simp [intOf]; omega
      · obtain ⟨b', off', p, hA, hb', hg', c1⟩ := HR.out.int_at HL.out (show j - 1 < n by omega)
        simp only [Option.some.injEq, Addr.mk.injEq, and_true] at hA
        obtain ⟨rfl, rfl⟩ := hA
        have hp := bounds_u64 (HW.out p (List.mem_of_getElem? hg'))
        have hp0 := hp.1
        have hp1 := hp.2
        clear hp
        have hd : Hid (dif l j = (x - p) % 18446744073709551616) := hide (dif_next (by omega) hg hg')
        have dz : decide ((0 : Int) < (j : Int)) = true := by simp; omega
        have dz2 : decide (0 < j) = true := by simp; omega
        have i0 : (0 : Int) ≤ (j : Int) - 1 := by omega
        have i1 : (j : Int) - 1 < (n : Int) := by omega
        have i2 : ((j : Int) - 1).toNat = j - 1 := by omega
        clear hz hg hg'
        generalize mn l j = s at *
        by_cases hin : (j : Int) = i
        · have b1 : ((j : Int) == i) = true := by simpa using hin
          have hw : Hid (wantOf l i (j + 1) = (x - p) % 18446744073709551616) := hide (by unfold wantOf; rw [if_pos (by omega), show i.toNat = j by omega, hd.out])
          clear hin
          generalize wantOf l i j = wv at *
          go_wp2_with fail
          go_round
          case rel => exact ⟨j + 1, by omega, by go_num, by rw [hw.out]; (try simp only [IntKind.wrap_u64]), by rw [hn2.out, hd.out]; (try simp only [IntKind.wrap_u64])⟩
          case measure => simp [intOf]; omega
        · have b1 : ((j : Int) == i) = false := by simpa using hin
          have hw : Hid (wantOf l i (j + 1) = wantOf l i j) := hide (wantOf_stay l hin)
          clear hin
          generalize wantOf l i j = wv at *
          go_wp2_with fail
          go_round
          case rel => exact ⟨j + 1, by omega, by go_num, by rw [hw.out], by rw [hn2.out, hd.out]; (try simp only [IntKind.wrap_u64])⟩
          case measure => simp [intOf]; omega
    · obtain rfl : j = n := by omega
      have hs : wantOf l i j = sh l i := by
        unfold wantOf sh; rw [HL.out]
        by_cases h : 0 ≤ i ∧ i < (j : Int)
        · rw [if_pos h, if_neg (by omega)]
        · rw [if_neg h, if_pos (by omega)]
      simp only [hs]
      clear hs
      go_wp2_with fail
      refine (cumul_right A j c w.heap.size l _ HR.out HL.out hn).mono ?_; rintro e w' ⟨rfl, rfl⟩
      generalize hrr : right l = r
      have HRR := hide hrr
      clear hrr
      go_wp2_with fail
      refine (ref_right A j c w.heap.size l _ HR.out HL.out hn).mono ?_; rintro e w' ⟨rfl, d1, rfl⟩
      simp only [HRR.out]
      have brr : (r == r) = true := by simp
      go_wp2_with fail
      refine (cum_share_any A j c w.heap.size l _ (HR.out.drewN d1) HL.out (by omega) i).mono ?_; rintro e w' ⟨rfl, d2, rfl⟩
      generalize sh l i = sv
      go_wp2_with fail
      refine (cum_mean A j c w.heap.size l _ (HR.out.drewN _) HL.out (by omega)).mono ?_; rintro e w' ⟨rfl, d3, rfl⟩
      generalize mn l j = mv at *
      go_wp2_with (go_at_call 17; refine (cum_alive _).mono ?_; rintro e w9 ⟨rfl, hb9⟩)
      go_ret
      exact ⟨rfl, then_ (below_drewN (Below.refl _ _) _) hb9 (Nat.le_refl _)⟩

set_option maxRecDepth 100000 in
theorem cumulTells_lifted (os : Os) (started : os.Started) (H : Type) (enc : TypeId × Value → H) :
    ReturnsInHanded {} Try.checked os 4 .any (Rows.cumulTellsSpec.pre6 enc Try.prog Try.f4 [] false) (Rows.cumulTellsSpec.post enc Try.prog Try.f4 false true false false) := by
  refine law_lifted (C := Try.checked) Try.own started (by kernel_rfl) Try.func4
    (ChangeSpec.witness6 (enc := enc) (C := Try.checked) false ⟨#[], #[.slice none 0 0, .int .i64 0], []⟩ 8 (by kernel_rfl) (by kernel_rfl) (by kernel_rfl) (by kernel_rfl))
    Try.laidOut (show ∀ t ∈ [22, 3], Try.prog.readableRec t = true ∧ t < Try.prog.types.size from by
      intro t ht; simp only [List.mem_cons, List.not_mem_nil, or_false] at ht; rcases ht with rfl | rfl <;> exact ⟨by kernel_rfl, of_decide_eq_true (by kernel_rfl)⟩) (tb := 4) (by kernel_rfl) Try.underlying4 rfl (fun ds hd => ?_) ?_
  · match ds, hd with
    | [_, _], _ => rfl
  · intro W base args ds p hval hA
    have hval' : ∀ (j : Nat) t v, Try.f4.params[j]? = some t → args[j]? = some v → Value.okWide Try.prog W .any base t v := hval
    rw [Try.params4] at hA hval'
    obtain ⟨v0, v1, d0, d1, p0, p1, rfl, rfl, rfl, h0, h1⟩ := trodAll_two hA
    obtain ⟨A, n, c, l, rfl, hl, _, _, hw, hr⟩ := arg_ints Try.underlying22 Try.underlying28 (by kernel_rfl) (hval' 0 _ _ rfl rfl) h0
    obtain ⟨a1, rfl, w1⟩ := arg_int Try.underlying3 (hval' 1 _ _ rfl rfl) h1
    exact cumulTells_walk A n c l a1 W hr hl hw

theorem cumulTells_holds : Rows.CumulTellsSaid :=
  OpenClaim.holds_of_wide 4 Try.f4 rfl rfl rfl rfl rfl rfl rfl ⟨rfl, rfl, rfl, rfl, rfl⟩ rfl rfl rfl rfl rfl (by kernel_rfl) Try.func4 (by kernel_rfl)
    (of_decide_eq_true (by kernel_rfl)) (by unfold Func.isWrapper; first | (rw [if_pos (by decide +kernel)]; kernel_rfl) | (rw [if_neg (by decide +kernel)]; exact ⟨rfl, rfl⟩))
    (fun os started H enc _ => cumulTells_lifted os started H enc)
#print axioms cumulTells_holds
end Go.Proofs.Ytkgkilogjodccaa
