/-
  The law PulsePeaks holds: whatever the places and k, the call returns true and turns nothing. No condition.
-/
import Derived.Test.YtkgkilogjodccaaRows
import Derived.Test.YtkgkilogjodccaaFrame
import Derived.Test.YtkgkilogjodccaaSums
import Derived.Test.YtkgkilogjodccaaPulseAlive
namespace Go.Proofs.Ytkgkilogjodccaa
open Go.ChangeShapes Go.WideShapes Go.ChangeAt Go.RowKit HB SumsP
set_option linter.unusedVariables false
set_option linter.unusedSimpArgs false

theorem Peaks.short (l : List Int) (k : Int) (h : l.length ≤ 100) : (Sums.of l k).length ≤ 101 := by
  unfold Sums.of; split
  · simp
  · rw [wins_length]; omega
def Peaks.Out (l : List Int) (k : Nat) (w : World) (o i : Value) (wr : World) : Prop :=
  ∃ j : Nat, (j + k ≤ l.length + 1 ∨ j = 0) ∧ i = .int .i64 j ∧ Own wr w.heap.size 3 1 (num .i64) o (wins wrap64 l k (j + k - 1)) ∧ Below w.heap.size w wr

set_option maxRecDepth 100000 in
set_option maxHeartbeats 8000000 in
theorem pulsePeaks_less (A : Option Addr) (n c : Nat) (l : List Int) (k : Int) (w : World) (hr : Rd w w.heap.size 1 A n (l.map (Value.int .i64))) (hl : l.length = n) (hn : n ≤ 100) (hk : k < 1) :
    Calls Try.prog 10 #[.slice A n c, .int .i64 k] w fun e w' => e = .returned (.bool true) ∧ Below w.heap.size w w' := by
  have e := Sums.of_none l k (.inl hk)
  have E := hide e
  have Hl := hide hl
  have dn : decide (100 < n) = false := by simp; omega
  clear hl e
  go_enter Try.func10, Try.ntmps10
  go_wp2_with fail
  go_loopw [5, 6] (fun o i wr => i = .int .i64 0 ∧ Own wr w.heap.size 3 1 (num .i64) o [] ∧ Below w.heap.size w wr) (fun _ _ _ => 0)
  case atStart => exact ⟨rfl, Own.nil _ _ _ _ _, Below.refl _ _⟩
  case round =>
    obtain ⟨rfl, hown, hbel⟩ := hrel
    rw [← E.out] at hown
    obtain ⟨A1, c1, rfl, hc1, hrd⟩ := hown.ints
    have HR1 := hide hrd
    have hlen : (Sums.of l k).length ≤ 101 := Peaks.short l k (by rw [Hl.out]; exact hn)
    clear hown hrd
    generalize hS : Sums.of l k = S at *
    generalize hm : S.length = q at *
    have HS := hide hS
    have Hm := hide hm
    have hz := hbel.size
    clear hS hm
    go_wp2_with fail
    refine (peak_any A n c w.heap.size l k _ (hr.below hbel) hz Hl.out hn).mono ?_; rintro e w1 ⟨a, mo, rfl, hbest, hb1⟩
    rw [HS.out, Hm.out] at hbest
    have HB := hide hbest
    clear hbest
    have hz1 : w.heap.size ≤ w1.heap.size := Nat.le_trans hz hb1.size
    go_wp2_with fail
    refine (sums_any A n c w.heap.size l k _ ((hr.below hbel).below (hb1.mono hz)) hz1 Hl.out hn).mono ?_; rintro e w2 ⟨v, rfl, hown2, hb2⟩
    obtain ⟨A2, c2, rfl, hc2, hrd2⟩ := hown2.ints
    rw [HS.out, Hm.out] at hrd2
    simp only [HS.out, Hm.out]
    have HR2 := hide hrd2
    have HR3 := hide ((HR1.out.below hb1).below (hb2.mono hb1.size))
    clear hown2 hrd2
    have hB2 := then_ (then_ hbel hb1 (Nat.le_refl _)) hb2 (Nat.le_refl _)
    go_wp2_with fail
    refine (eqInt _ _ _ _ _ _ _ _ _ _ _ HR2.out HR3.out (by omega) (by omega)).mono ?_; rintro e w3 ⟨rfl, mm, rfl⟩
    simp only [decide_true]
    have HR4 := hide (HR3.out.drewN mm)
    have hB3 := below_drewN hB2 mm
    rcases HB.out with ⟨rfl, rfl, rfl⟩ | ⟨i, rfl, hiq, hi, hall⟩
    · have e1 : decide ((0 : Int) ≤ -1) = false := by decide
      simp only [e1]
      have e2 : max (-1 : Int) 0 = 0 := by decide
      simp only [e2]
      go_wp2_with (go_at_call 37; refine (pulse_alive2 _).mono ?_; rintro e w9 ⟨rfl, hb9⟩)
      go_ret
      exact ⟨rfl, then_ hB3 hb9 (Nat.le_refl _)⟩
    · have e1 : decide ((0 : Int) ≤ (i : Int)) = true := by simp
      have e2 : max (i : Int) 0 = i := by omega
      simp only [e1, e2]
      have dq : decide ((0 : Int) < (q : Int)) = true := by simp; omega
      have dq2 : decide (0 < q) = true := by simp; omega
      obtain ⟨b, off, x, hA1, hb', hg, c0⟩ := HR4.out.int_at Hm.out hiq
      rw [hi] at hg
      obtain rfl := Option.some.inj hg
      subst hA1
      have dm : (mo != mo) = false := by simp
      have hi0 : (0 : Int) ≤ (i : Int) := by omega
      have hi1 : (i : Int) < (q : Int) := by omega
      have HI := hide hi
      have HALL := hide hall
      clear hi hall hg
      go_wp2_with fail
      go_loop [12] (fun t => ∃ j : Nat, j ≤ q ∧ t = .int .i64 j) (fun t => q - (intOf t).toNat)
      case atStart => exact ⟨0, Nat.zero_le _, rfl⟩
      case round =>
        obtain ⟨j, hj, rfl⟩ := hrel
        by_cases hlt : j < q
        · obtain ⟨b2, off2, y, hA2, hb2', hg2, c2⟩ := HR4.out.int_at Hm.out hlt
          simp only [Option.some.injEq, Addr.mk.injEq, and_true] at hA2
          obtain ⟨rfl, rfl⟩ := hA2
          have hle := (HALL.out j y hlt hg2).1
          have hji : (¬ j < i) ∨ (j < i ∧ (y == mo) = false) := by
            by_cases h : j < i
            · exact .inr ⟨h, by rw [beq_eq_false_iff_ne]; exact (HALL.out j y hlt hg2).2 h⟩
            · exact .inl h
          clear hg2
          rcases hji with h | ⟨h, h'⟩
          all_goals
            go_wp2_with fail
            go_round
            case rel => exact ⟨j + 1, by omega, by go_num⟩
            case measure => simp [intOf]; omega
        · go_wp2_with (go_at_call 37; refine (pulse_alive2 _).mono ?_; rintro e w9 ⟨rfl, hb9⟩)
          go_ret
          exact ⟨rfl, then_ hB3 hb9 (Nat.le_refl _)⟩


set_option maxRecDepth 100000 in
set_option maxHeartbeats 8000000 in
theorem pulsePeaks_more (A : Option Addr) (n c : Nat) (l : List Int) (k : Nat) (w : World) (hr : Rd w w.heap.size 1 A n (l.map (Value.int .i64))) (hl : l.length = n) (hn : n ≤ 100) (hk : 1 ≤ k) :
    Calls Try.prog 10 #[.slice A n c, .int .i64 (k : Int)] w fun e w' => e = .returned (.bool true) ∧ Below w.heap.size w w' := by
  have E := hide (Sums.of_some l k hk)
  have Hl := hide hl
  have dn : decide (100 < n) = false := by simp; omega
  have dk : decide ((1 : Int) ≤ (k : Int)) = true := by simp; omega
  have dk2 : decide (1 ≤ k) = true := by simp; omega
  clear hl
  go_enter Try.func10, Try.ntmps10
  go_wp2_with fail
  go_loopw [5, 6] (fun o i wr => Peaks.Out l k w o i wr) (fun _ i _ => n + 1 - (intOf i).toNat)
  case atStart =>
    refine ⟨0, .inr rfl, rfl, ?_, Below.refl _ _⟩
    unfold wins; rw [show 0 + k - 1 + 1 - k = 0 from by omega]; exact Own.nil _ _ _ _ _
  case round =>
    obtain ⟨j, hj, rfl, hown, hbel⟩ := hrel
    rw [Hl.out] at hj
    by_cases hlt : j + k ≤ n
    · have dj : decide ((k : Int) ≤ wrap64 ((n : Int) - (j : Int))) = true := by simp [wrap64]; omega
      have hz := hbel.size
      have hL : (wins wrap64 l k (j + k - 1)).length ≤ 1000000000 := by rw [wins_length]; omega
      have HO := hide hown
      clear hown
      go_wp2_with fail
      go_loop [7, 8] (fun s i => ∃ m : Nat, m ≤ k ∧ i = .int .i64 m ∧ s = .int .i64 (wrap64 (pre l (j + m) - pre l j))) (fun _ i => k - (intOf i).toNat)
      case atStart => exact ⟨0, Nat.zero_le _, rfl, by rw [Nat.add_zero, show pre l j - pre l j = 0 from by omega, show wrap64 0 = 0 from by unfold wrap64; omega]⟩
      case round =>
        obtain ⟨m, hm, rfl, rfl⟩ := hrel
        by_cases hmk : m < k
        · obtain ⟨b, off, x, rfl, hb, hg, c0⟩ := (hr.below hbel).int_at Hl.out (show j + m < n by omega)
          have hv : wrap64 (wrap64 (pre l (j + m) - pre l j) + x) = wrap64 (pre l (j + (m + 1)) - pre l j) := by
            rw [Sums.w_add, show j + (m + 1) = j + m + 1 from rfl, pre_succ hg]; congr 1; omega
          generalize hs : wrap64 (pre l (j + m) - pre l j) = s at hv ⊢
          have HV := hide hv
          clear hv hg hr hs
          have i0 : (0 : Int) ≤ (j : Int) + (m : Int) := by omega
          have i1 : (j : Int) + (m : Int) < (n : Int) := by omega
          have i2 : ((j : Int) + (m : Int)).toNat = j + m := by omega
          go_wp2_with fail
          go_round
          case rel => exact ⟨m + 1, by omega, by go_num, by rw [HV.out]⟩
          case measure => simp [intOf]; omega
        · obtain rfl : m = k := by omega
          generalize hs : wrap64 (pre l (j + m) - pre l j) = s
          have HS := hide hs
          clear hs
          go_wp2_with (at_builtin; refine push rfl _ _ 35 rfl Try.underlying35 Sums.info rfl (by omega) (by omega) rfl (HO.out.alloc _) s ⟨_, 0, none⟩ 1 rfl rfl (cell_one_new _ _ _) (by simp [Value.oneCell']) hL (Nat.le_trans hz (by simp)) ?_; intro v' w1 hown1 hb1)
          go_roundw
          case rel =>
            refine ⟨j + 1, .inl (by rw [Hl.out]; omega), by go_num, ?_, (hbel.alloc hz _).trans hb1⟩
            have := wins_more wrap64 l m (j + m - 1) hk (by omega)
            rw [show j + m - 1 + 1 = j + m from by omega, show j + m - m = j from by omega, HS.out] at this
            rw [show j + 1 + m - 1 = j + m from by omega, this]
            exact hown1
          case measure => simp [intOf]; omega
    · have dj : decide ((k : Int) ≤ wrap64 ((n : Int) - (j : Int))) = false := by simp [wrap64]; omega
      have e : wins wrap64 l k (j + k - 1) = Sums.of l k := by
        rw [E.out, Hl.out]
        rcases hj with h | h
        · rw [show j + k - 1 = n from by omega]
        · unfold wins; rw [show j + k - 1 + 1 - k = 0 from by omega, show n + 1 - k = 0 from by omega]
      rw [e] at hown
      clear e hj
      obtain ⟨A1, c1, rfl, hc1, hrd⟩ := hown.ints
      have HR1 := hide hrd
      have hlen : (Sums.of l (k : Int)).length ≤ 101 := Peaks.short l (k : Int) (by rw [Hl.out]; exact hn)
      clear hown hrd
      generalize hS : Sums.of l (k : Int) = S at *
      generalize hm : S.length = q at *
      have HS := hide hS
      have Hm := hide hm
      have hz := hbel.size
      clear hS hm
      go_wp2_with fail
      refine (peak_any A n c w.heap.size l (k : Int) _ (hr.below hbel) hz Hl.out hn).mono ?_; rintro e w1 ⟨a, mo, rfl, hbest, hb1⟩
      rw [HS.out, Hm.out] at hbest
      have HB := hide hbest
      clear hbest
      have hz1 : w.heap.size ≤ w1.heap.size := Nat.le_trans hz hb1.size
      go_wp2_with fail
      refine (sums_any A n c w.heap.size l (k : Int) _ ((hr.below hbel).below (hb1.mono hz)) hz1 Hl.out hn).mono ?_; rintro e w2 ⟨v, rfl, hown2, hb2⟩
      obtain ⟨A2, c2, rfl, hc2, hrd2⟩ := hown2.ints
      rw [HS.out, Hm.out] at hrd2
      simp only [HS.out, Hm.out]
      have HR2 := hide hrd2
      have HR3 := hide ((HR1.out.below hb1).below (hb2.mono hb1.size))
      clear hown2 hrd2
      have hB2 := then_ (then_ hbel hb1 (Nat.le_refl _)) hb2 (Nat.le_refl _)
      go_wp2_with fail
      refine (eqInt _ _ _ _ _ _ _ _ _ _ _ HR2.out HR3.out (by omega) (by omega)).mono ?_; rintro e w3 ⟨rfl, mm, rfl⟩
      simp only [decide_true]
      have HR4 := hide (HR3.out.drewN mm)
      have hB3 := below_drewN hB2 mm
      rcases HB.out with ⟨rfl, rfl, rfl⟩ | ⟨i, rfl, hiq, hi, hall⟩
      · have e1 : decide ((0 : Int) ≤ -1) = false := by decide
        simp only [e1]
        have e2 : max (-1 : Int) 0 = 0 := by decide
        simp only [e2]
        go_wp2_with (go_at_call 37; refine (pulse_alive2 _).mono ?_; rintro e w9 ⟨rfl, hb9⟩)
        go_ret
        exact ⟨rfl, then_ hB3 hb9 (Nat.le_refl _)⟩
      · have e1 : decide ((0 : Int) ≤ (i : Int)) = true := by simp
        have e2 : max (i : Int) 0 = i := by omega
        simp only [e1, e2]
        have dq : decide ((0 : Int) < (q : Int)) = true := by simp; omega
        have dq2 : decide (0 < q) = true := by simp; omega
        obtain ⟨b, off, x, hA1, hb', hg, c0⟩ := HR4.out.int_at Hm.out hiq
        rw [hi] at hg
        obtain rfl := Option.some.inj hg
        subst hA1
        have dm : (mo != mo) = false := by simp
        have hi0 : (0 : Int) ≤ (i : Int) := by omega
        have hi1 : (i : Int) < (q : Int) := by omega
        have HI := hide hi
        have HALL := hide hall
        clear hi hall hg
        go_wp2_with fail
        go_loop [12] (fun t => ∃ j : Nat, j ≤ q ∧ t = .int .i64 j) (fun t => q - (intOf t).toNat)
        case atStart => exact ⟨0, Nat.zero_le _, rfl⟩
        case round =>
          obtain ⟨j, hj, rfl⟩ := hrel
          by_cases hlt : j < q
          · obtain ⟨b2, off2, y, hA2, hb2', hg2, c2⟩ := HR4.out.int_at Hm.out hlt
            simp only [Option.some.injEq, Addr.mk.injEq, and_true] at hA2
            obtain ⟨rfl, rfl⟩ := hA2
            have hle := (HALL.out j y hlt hg2).1
            have hji : (¬ j < i) ∨ (j < i ∧ (y == mo) = false) := by
              by_cases h : j < i
              · exact .inr ⟨h, by rw [beq_eq_false_iff_ne]; exact (HALL.out j y hlt hg2).2 h⟩
              · exact .inl h
            clear hg2
            rcases hji with h | ⟨h, h'⟩
            all_goals
              go_wp2_with fail
              go_round
              case rel => exact ⟨j + 1, by omega, by go_num⟩
              case measure => simp [intOf]; omega
          · go_wp2_with (go_at_call 37; refine (pulse_alive2 _).mono ?_; rintro e w9 ⟨rfl, hb9⟩)
            go_ret
            exact ⟨rfl, then_ hB3 hb9 (Nat.le_refl _)⟩


theorem pulsePeaks_walk (A : Option Addr) (n c : Nat) (l : List Int) (k : Int) (w : World) (hr : Rd w w.heap.size 1 A n (l.map (Value.int .i64))) (hl : l.length = n) :
    Calls Try.prog 10 #[.slice A n c, .int .i64 k] w fun e w' => e = .returned (.bool true) ∧ Below w.heap.size w w' := by
  by_cases hn : 100 < n
  · go_enter Try.func10, Try.ntmps10
    go_wp2_with fail
    go_ret
    exact ⟨rfl, Below.refl _ _⟩
  · by_cases hk : k < 1
    · exact pulsePeaks_less A n c l k w hr hl (by omega) hk
    · obtain ⟨k, rfl⟩ := Int.eq_ofNat_of_zero_le (show 0 ≤ k by omega)
      exact pulsePeaks_more A n c l k w hr hl (by omega) (by omega)

set_option maxRecDepth 100000 in
theorem pulsePeaks_lifted (os : Os) (started : os.Started) (H : Type) (enc : TypeId × Value → H) :
    ReturnsInHanded {} Try.checked os 10 .any (Rows.pulsePeaksSpec.pre6 enc Try.prog Try.f10 [] false) (Rows.pulsePeaksSpec.post enc Try.prog Try.f10 false true false false) := by
  refine law_lifted (C := Try.checked) Try.own started (by kernel_rfl) Try.func10
    (ChangeSpec.witness6 (enc := enc) (C := Try.checked) false ⟨#[], #[.slice none 0 0, .int .i64 0], []⟩ 8 (by kernel_rfl) (by kernel_rfl) (by kernel_rfl) (by kernel_rfl))
    Try.laidOut (show ∀ t ∈ [35, 3], Try.prog.readableRec t = true ∧ t < Try.prog.types.size from by
      intro t ht; simp only [List.mem_cons, List.not_mem_nil, or_false] at ht; rcases ht with rfl | rfl <;> exact ⟨by kernel_rfl, of_decide_eq_true (by kernel_rfl)⟩) (tb := 4) (by kernel_rfl) Try.underlying4 rfl (fun ds hd => ?_) ?_
  · match ds, hd with
    | [_, _], _ => rfl
  · intro W base args ds p hval hA
    have hval' : ∀ (j : Nat) t v, Try.f10.params[j]? = some t → args[j]? = some v → Value.okWide Try.prog W .any base t v := hval
    rw [Try.params10] at hA hval'
    obtain ⟨v0, v1, d0, d1, p0, p1, rfl, rfl, rfl, h0, h1⟩ := trodAll_two hA
    obtain ⟨A, n, c, l, rfl, hl, hc, _, hw, hr⟩ := arg_ints Try.underlying35 Try.underlying3 (by kernel_rfl) (hval' 0 _ _ rfl rfl) h0
    obtain ⟨k, rfl, w1⟩ := arg_int Try.underlying3 (hval' 1 _ _ rfl rfl) h1
    exact pulsePeaks_walk A n c l k W hr hl

theorem pulsePeaks_holds : Rows.PulsePeaksSaid :=
  OpenClaim.holds_of_wide 10 Try.f10 rfl rfl rfl rfl rfl rfl rfl ⟨rfl, rfl, rfl, rfl, rfl⟩ rfl rfl rfl rfl rfl (by kernel_rfl) Try.func10 (by kernel_rfl)
    (of_decide_eq_true (by kernel_rfl)) (by unfold Func.isWrapper; first | (rw [if_pos (by decide +kernel)]; kernel_rfl) | (rw [if_neg (by decide +kernel)]; exact ⟨rfl, rfl⟩))
    (fun os started H enc _ => pulsePeaks_lifted os started H enc)
#print axioms pulsePeaks_holds
end Go.Proofs.Ytkgkilogjodccaa
