/-
  The law PulseCounts holds: whatever the ticks, the width and the horizon, the call returns true and turns nothing. No condition.
-/
import Derived.Test.YtkgkilogjodccaaRows
import Derived.Test.YtkgkilogjodccaaFrame
import Derived.Test.YtkgkilogjodccaaPulse
namespace Go.Proofs.Ytkgkilogjodccaa
open Go.ChangeShapes Go.WideShapes Go.ChangeAt Go.RowKit HB PulseP
set_option linter.unusedVariables false
set_option linter.unusedSimpArgs false

set_option maxRecDepth 100000 in
set_option maxHeartbeats 2000000 in
theorem pulse_alive (w : World) : Calls Try.prog 37 #[] w fun e w' => e = .returned (.bool true) ∧ Below w.heap.size w w' := by
  have hw : ∀ x ∈ [(0 : Int), 1, 5], (Lit.int .i64 x).wf = true := by decide
  have Hw := hide hw
  clear hw
  go_enter Try.func37, Try.ntmps37
  go_wp2_with fail
  refine (count_ok _ 3 3 _ 4 [0, 1, 5] 2 7 _ (Rd.new w 3 (xs := [.int .i64 0, .int .i64 1, .int .i64 5]) rfl) (by simp) rfl (by omega) Hw.out (by omega) (by omega) (by omega) (by omega) (by decide) (by omega)).mono ?_; rintro e w1 ⟨v, rfl, hown, hb1⟩
  obtain ⟨A, c, rfl, hc, hrd⟩ := hown.ints
  have e1 : counts 7 2 4 [0, 1, 5] = [2, 0, 1, 0] := by decide
  simp only [e1] at hc hrd ⊢
  clear hown e1
  have HR := hide (hrd.alloc (Nat.le_refl _) (.cells #[.int .i64 2, .int .i64 0, .int .i64 1, .int .i64 0] 3))
  clear hrd
  go_wp2_with fail
  refine (eqInt _ _ _ _ _ _ _ _ [2, 0, 1, 0] [2, 0, 1, 0] _ HR.out (Rd.new w1 3 (xs := [.int .i64 2, .int .i64 0, .int .i64 1, .int .i64 0]) rfl) (by simp) (by omega)).mono ?_; rintro e w2 ⟨rfl, m, rfl⟩
  simp only [decide_true]
  go_wp2_with fail
  go_ret
  exact ⟨rfl, below_drewN (Below.alloc (then_ (by go_grown) hb1 (by simp)) (by have := hb1.size; simp at this; omega) _) _⟩

set_option maxRecDepth 100000 in
set_option maxHeartbeats 4000000 in
theorem pulseCounts_arg (A : Option Addr) (n c : Nat) (ts : List Int) (wd hz : Int) (w : World) (hr : Rd w w.heap.size 1 A n (ts.map (Value.int .i64))) (hl : ts.length = n) (hw : ∀ x ∈ ts, (Lit.int .i64 x).wf = true) (hn : n ≤ 100) (h : wd < 1 ∨ hz < 0) :
    Calls Try.prog 9 #[.slice A n c, .int .i64 wd, .int .i64 hz] w fun e w' => e = .returned (.bool true) ∧ Below w.heap.size w w' := by
  have H := hide h
  have hd : (wd < 1) ∨ (1 ≤ wd ∧ hz < 0) := by omega
  clear h hr hl hw
  rcases hd with h1 | ⟨h1, h2⟩
  all_goals
    go_enter Try.func9, Try.ntmps9
    go_wp2_with (first
      | (go_at_call 36; refine (count_arg A n c wd hz H.out _).mono ?_; rintro e w1 ⟨rfl, rfl⟩)
      | (go_at_call 37; refine (pulse_alive _).mono ?_; rintro e w9 ⟨rfl, hb9⟩))
    go_ret
    exact ⟨rfl, hb9⟩

set_option maxRecDepth 100000 in
set_option maxHeartbeats 4000000 in
theorem pulseCounts_size (A : Option Addr) (n c : Nat) (ts : List Int) (wd hz : Int) (w : World) (hr : Rd w w.heap.size 1 A n (ts.map (Value.int .i64))) (hl : ts.length = n) (hw : ∀ x ∈ ts, (Lit.int .i64 x).wf = true) (hn : n ≤ 100) (h1 : 1 ≤ wd) (h0 : 0 ≤ hz) (h2 : hz ≤ 9223372036854775807) (hm : 65536 < many hz wd) :
    Calls Try.prog 9 #[.slice A n c, .int .i64 wd, .int .i64 hz] w fun e w' => e = .returned (.bool true) ∧ Below w.heap.size w w' := by
  have H := hide hm
  obtain ⟨q0, q1, ⟨hp, hq, q2⟩ | ⟨hp, hq⟩⟩ := Pulse.many_cases h0 h1 h2
  all_goals
    rw [hq] at hm
    clear hq hr hl hw
    go_enter Try.func9, Try.ntmps9
    go_wp2_with (first
      | (go_at_call 36; refine (count_size A n c wd hz h1 h0 h2 H.out _).mono ?_; rintro e w1 ⟨rfl, rfl⟩)
      | (go_at_call 37; refine (pulse_alive _).mono ?_; rintro e w9 ⟨rfl, hb9⟩))
    go_ret
    exact ⟨rfl, hb9⟩

set_option maxRecDepth 100000 in
set_option maxHeartbeats 4000000 in
theorem pulseCounts_great (A : Option Addr) (n c : Nat) (ts : List Int) (wd hz : Int) (w : World) (hr : Rd w w.heap.size 1 A n (ts.map (Value.int .i64))) (hl : ts.length = n) (hw : ∀ x ∈ ts, (Lit.int .i64 x).wf = true) (hn : n ≤ 100) (h1 : 1 ≤ wd) (h0 : 0 ≤ hz) (h2 : hz ≤ 9223372036854775807) (hm : many hz wd ≤ 65536) (hm2 : 500 < many hz wd) :
    Calls Try.prog 9 #[.slice A n c, .int .i64 wd, .int .i64 hz] w fun e w' => e = .returned (.bool true) ∧ Below w.heap.size w w' := by
  obtain ⟨q0, q1, ⟨hp, hq, q2⟩ | ⟨hp, hq⟩⟩ := Pulse.many_cases h0 h1 h2
  all_goals
    rw [hq] at hm hm2
    clear hq hr hl hw
    go_enter Try.func9, Try.ntmps9
    go_wp2_with (go_at_call 37; refine (pulse_alive _).mono ?_; rintro e w9 ⟨rfl, hb9⟩)
    go_ret
    exact ⟨rfl, hb9⟩

def Pulse.Out (ts : List Int) (hz wd : Int) (m : Nat) (w : World) (i : Value) (wr : World) : Prop :=
  ∃ k : Nat, k ≤ m ∧ i = .int .i64 k ∧ Own wr w.heap.size 3 1 (num .i64) (.slice (some ⟨w.heap.size, 0, none⟩) m m) (PulseP.part hz wd m ts k 0) ∧ Below w.heap.size w wr ∧ w.heap.size < wr.heap.size
def Pulse.In (ts : List Int) (hz wd : Int) (m i : Nat) (w : World) (j : Value) (wr : World) : Prop :=
  ∃ k : Nat, k ≤ ts.length ∧ j = .int .i64 k ∧ Own wr w.heap.size 3 1 (num .i64) (.slice (some ⟨w.heap.size, 0, none⟩) m m) (PulseP.part hz wd m ts i k) ∧ Below w.heap.size w wr ∧ w.heap.size < wr.heap.size

set_option maxRecDepth 100000 in
set_option maxHeartbeats 8000000 in
theorem pulseCounts_ok (A : Option Addr) (n c : Nat) (ts : List Int) (wd hz : Int) (w : World) (hr : Rd w w.heap.size 1 A n (ts.map (Value.int .i64))) (hl : ts.length = n) (hw : ∀ x ∈ ts, (Lit.int .i64 x).wf = true) (m : Nat) (hn : n ≤ 100) (h1 : 1 ≤ wd) (h0 : 0 ≤ hz) (h2 : hz ≤ 9223372036854775807) (h3 : wd ≤ 9223372036854775807) (hm : many hz wd = m) (hm1 : m ≤ 500) :
    Calls Try.prog 9 #[.slice A n c, .int .i64 wd, .int .i64 hz] w fun e w' => e = .returned (.bool true) ∧ Below w.heap.size w w' := by
  have hmk := fun (W : World) => run_make_row' (P := Try.prog) 35 3 (.int .i64 0) 8 Try.underlying35 Pulse.info rfl .i64 .i64 m (by omega) (by omega) W
  have Hl := hide hl
  have Hw := hide hw
  have Hm := hide hm
  clear hl hw
  have hown0 := Own.made (base := w.heap.size) (k := .i64) w 3 m (Nat.le_refl _) (by omega)
  rw [← part_zero hz wd m ts] at hown0
  have Ho := hide hown0
  obtain ⟨q0, q1, hcase⟩ := Pulse.many_cases h0 h1 h2
  rw [hm] at hcase
  have hcase2 : (0 < hz % wd ∧ hz / wd ≤ 9223372036854775806 ∧ hz / wd + 1 = m) ∨ (¬ 0 < hz % wd ∧ hz / wd = m) := by omega
  clear hm hcase hown0
  rcases hcase2 with ⟨hp, q2, hq⟩ | ⟨hp, hq⟩
  all_goals
    have d1 : decide ((500 : Int) < (m : Int)) = false := by simp; omega
    have d2 : decide ((65536 : Int) < (m : Int)) = false := by simp; omega
    go_enter Try.func9, Try.ntmps9
    go_wp2_with fail
    clear hmk hq
    go_loopw [13] (fun i wr => Pulse.Out ts hz wd m w i wr) (fun i _ => m - (intOf i).toNat)
    case atStart => exact ⟨0, Nat.zero_le _, rfl, Ho.out, by go_grown, by simp⟩
    case round =>
      obtain ⟨i, hi, rfl, hown, hbel, hsz⟩ := hrel
      obtain ⟨wo, rfl⟩ : ∃ wo : World, wo = wr := ⟨_, rfl⟩
      by_cases hlt : i < m
      · have hi1 : (i : Int) ≤ 500 := by omega
        go_wp2_with fail
        go_loopw [14] (fun j wr => Pulse.In ts hz wd m i w j wr) (fun j _ => n - (intOf j).toNat)
        case atStart => exact ⟨0, Nat.zero_le _, rfl, hown, hbel, hsz⟩
        case round =>
          clear hown hbel hsz
          obtain ⟨k, hk, rfl, hown, hbel, hsz⟩ := hrel
          rw [Hl.out] at hk
          by_cases hlt2 : k < n
          · obtain ⟨b, off, x, rfl, hb, hg, c0⟩ := (hr.below hbel).int_at Hl.out hlt2
            have hwx := bounds_i64 (Hw.out x (List.mem_of_getElem? hg))
            have hlk : (ts.take k).length ≤ 100 := by rw [List.length_take, Hl.out]; omega
            have HG := hide hg
            have HO := hide hown
            clear hg hown
            obtain ⟨y, hy, cy, fy⟩ := HO.out.int_at (part_length _ _ _ _ _ _) (j := i) hlt
            have hyq := part_get hlt hy
            have hr1 := cnt_range hz wd (ts.take k) i
            rw [← hyq] at hr1
            have HY := hide hyq
            have hst := hide (HO.out.store (part_length _ _ _ _ _ _) i (y + 1))
            clear hy hyq
            by_cases hin : 0 ≤ x ∧ x < hz ∧ x / wd = i
            · obtain ⟨x0, x1, x2⟩ := hin
              have d3 : (x / wd == (i : Int)) = true := by simpa using x2
              have X2 := hide x2
              clear x2
              go_wp2_with fail
              go_roundw
              case rel =>
                refine ⟨k + 1, by rw [Hl.out]; omega, by go_num, ?_, hbel.trans hst.out.2, by go_size⟩
                rw [← part_in HG.out x0 x1 X2.out, ← HY.out]
                exact hst.out.1
              case measure => simp [intOf]; omega
            · have hno : x < 0 ∨ (0 ≤ x ∧ hz ≤ x) ∨ (0 ≤ x ∧ x < hz ∧ (x / wd == (i : Int)) = false) := by
                rcases Int.lt_or_le x 0 with a | a
                · exact .inl a
                · rcases Int.lt_or_le x hz with b' | b'
                  · exact .inr (.inr ⟨a, b', by rw [beq_eq_false_iff_ne]; exact fun e => hin ⟨a, b', e⟩⟩)
                  · exact .inr (.inl ⟨a, b'⟩)
              have hst2 := hide (part_out (m := m) HG.out hin)
              clear hin
              rcases hno with h5 | ⟨h5, h6⟩ | ⟨h5, h6, h7⟩
              all_goals
                go_wp2_with fail
                go_roundw
                case rel => exact ⟨k + 1, by rw [Hl.out]; omega, by go_num, by rw [hst2.out]; exact HO.out, hbel, hsz⟩
                case measure => simp [intOf]; omega
          · have hnx := hide (part_next hz wd m ts i k (by rw [Hl.out]; omega))
            have HO := hide hown
            clear hown
            go_wp2_with fail
            go_roundw
            case rel => exact ⟨i + 1, by omega, by go_num, by rw [← hnx.out]; exact HO.out, hbel, hsz⟩
            case measure => simp [intOf]; omega
      · rw [part_done hz wd m ts i (by omega)] at hown
        obtain ⟨A1, c1, hA1, hc1, hrd⟩ := hown.ints
        rw [counts_length] at hA1 hc1 hrd
        simp only [Value.slice.injEq, true_and] at hA1
        obtain ⟨rfl, rfl⟩ := hA1
        have HRD := hide hrd
        clear hown hrd
        go_wp2_with fail
        refine (count_ok A n c w.heap.size m ts wd hz _ (hr.below hbel) hbel.size Hl.out hn Hw.out h1 h0 h2 h3 Hm.out (by omega)).mono ?_; rintro e w1 ⟨v, rfl, hown1, hb1⟩
        obtain ⟨A2, c2, rfl, hc2, hrd2⟩ := hown1.ints
        rw [counts_length] at hc2 hrd2
        simp only [counts_length]
        have HR2 := hide hrd2
        have HR1 := hide (HRD.out.below hb1)
        clear hown1 hrd2
        go_wp2_with fail
        refine (eqInt _ _ _ _ _ _ _ _ _ _ _ HR2.out HR1.out (by omega) (by omega)).mono ?_; rintro e w2 ⟨rfl, mm, rfl⟩
        simp only [decide_true]
        go_wp2_with (go_at_call 37; refine (pulse_alive _).mono ?_; rintro e w9 ⟨rfl, hb9⟩)
        go_ret
        exact ⟨rfl, then_ (below_drewN (then_ hbel hb1 (Nat.le_refl _)) _) hb9 (Nat.le_refl _)⟩

theorem pulseCounts_walk (A : Option Addr) (n c : Nat) (ts : List Int) (wd hz : Int) (w : World) (hr : Rd w w.heap.size 1 A n (ts.map (Value.int .i64))) (hl : ts.length = n) (hw : ∀ x ∈ ts, (Lit.int .i64 x).wf = true) (h3 : wd ≤ 9223372036854775807) (h2 : hz ≤ 9223372036854775807) :
    Calls Try.prog 9 #[.slice A n c, .int .i64 wd, .int .i64 hz] w fun e w' => e = .returned (.bool true) ∧ Below w.heap.size w w' := by
  by_cases hbig : 100 < n
  · go_enter Try.func9, Try.ntmps9
    go_wp2_with fail
    go_ret
    exact ⟨rfl, Below.refl _ _⟩
  · by_cases ha : wd < 1 ∨ hz < 0
    · exact pulseCounts_arg A n c ts wd hz w hr hl hw (by omega) ha
    · by_cases hm : 65536 < many hz wd
      · exact pulseCounts_size A n c ts wd hz w hr hl hw (by omega) (by omega) (by omega) h2 hm
      · by_cases hm2 : 500 < many hz wd
        · exact pulseCounts_great A n c ts wd hz w hr hl hw (by omega) (by omega) (by omega) h2 (by omega) hm2
        · obtain ⟨m, hmm⟩ := Int.eq_ofNat_of_zero_le (many_nonneg (h := hz) (w := wd) (by omega) (by omega))
          exact pulseCounts_ok A n c ts wd hz w hr hl hw m (by omega) (by omega) (by omega) h2 h3 hmm (by omega)

set_option maxRecDepth 100000 in
theorem pulseCounts_lifted (os : Os) (started : os.Started) (H : Type) (enc : TypeId × Value → H) :
    ReturnsInHanded {} Try.checked os 9 .any (Rows.pulseCountsSpec.pre6 enc Try.prog Try.f9 [] false) (Rows.pulseCountsSpec.post enc Try.prog Try.f9 false true false false) := by
  refine law_lifted (C := Try.checked) Try.own started (by kernel_rfl) Try.func9
    (ChangeSpec.witness6 (enc := enc) (C := Try.checked) false ⟨#[], #[.slice none 0 0, .int .i64 0, .int .i64 0], []⟩ 8 (by kernel_rfl) (by kernel_rfl) (by kernel_rfl) (by kernel_rfl))
    Try.laidOut (show ∀ t ∈ [35, 3, 3], Try.prog.readableRec t = true ∧ t < Try.prog.types.size from by
      intro t ht; simp only [List.mem_cons, List.not_mem_nil, or_false] at ht; rcases ht with rfl | rfl | rfl <;> exact ⟨by kernel_rfl, of_decide_eq_true (by kernel_rfl)⟩) (tb := 4) (by kernel_rfl) Try.underlying4 rfl (fun ds hd => ?_) ?_
  · match ds, hd with
    | [_, _, _], _ => rfl
  · intro W base args ds p hval hA
    have hval' : ∀ (j : Nat) t v, Try.f9.params[j]? = some t → args[j]? = some v → Value.okWide Try.prog W .any base t v := hval
    rw [Try.params9] at hA hval'
    obtain ⟨v0, v1, v2, d0, d1, d2, p0, p1, p2, rfl, rfl, rfl, h0, h1, h2⟩ := trodAll_three hA
    obtain ⟨A, n, c, ts, rfl, hl, hc, _, hw, hr⟩ := arg_ints Try.underlying35 Try.underlying3 (by kernel_rfl) (hval' 0 _ _ rfl rfl) h0
    obtain ⟨a1, rfl, w1⟩ := arg_int Try.underlying3 (hval' 1 _ _ rfl rfl) h1
    obtain ⟨a2, rfl, w2⟩ := arg_int Try.underlying3 (hval' 2 _ _ rfl rfl) h2
    exact pulseCounts_walk A n c ts a1 a2 W hr hl hw (bounds_i64 w1).2 (bounds_i64 w2).2

theorem pulseCounts_holds : Rows.PulseCountsSaid :=
  OpenClaim.holds_of_wide 9 Try.f9 rfl rfl rfl rfl rfl rfl rfl ⟨rfl, rfl, rfl, rfl, rfl⟩ rfl rfl rfl rfl rfl (by kernel_rfl) Try.func9 (by kernel_rfl)
    (of_decide_eq_true (by kernel_rfl)) (by unfold Func.isWrapper; first | (rw [if_pos (by decide +kernel)]; kernel_rfl) | (rw [if_neg (by decide +kernel)]; exact ⟨rfl, rfl⟩))
    (fun os started H enc _ => pulseCounts_lifted os started H enc)
#print axioms pulseCounts_holds
end Go.Proofs.Ytkgkilogjodccaa
