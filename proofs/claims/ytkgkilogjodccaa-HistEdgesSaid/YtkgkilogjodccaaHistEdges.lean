/-
  The law HistEdges holds: whatever the bins, the width and the number, the call returns true and turns nothing. No condition.
-/
import Derived.Test.YtkgkilogjodccaaRows
import Derived.Test.YtkgkilogjodccaaFrame
import Derived.Test.YtkgkilogjodccaaHist
namespace Go.Proofs.Ytkgkilogjodccaa
open Go.ChangeShapes Go.WideShapes Go.ChangeAt Go.RowKit HB HistP
set_option linter.unusedVariables false
set_option linter.unusedSimpArgs false

theorem edge_no (b d k : Int) (h : right b d = false ∨ k < 0 ∨ b ≤ k) (w : World) : Calls Try.prog 33 #[.int .i64 b, .int .i64 d, .int .i64 k] w fun e w' => e = .returned (.tuple #[.int .i64 0, .int .i64 0, .bool false]) ∧ w = w' := by
  cases hr : right b d with
  | false =>
    have HR := hide hr
    clear h hr
    go_enter Try.func33, Try.ntmps33
    go_wp2_with (go_at_call 28; refine (hist_right _ _ _).mono ?_; rintro e w' ⟨rfl, rfl⟩; simp only [HR.out])
    go_ret3
    exact ⟨rfl, rfl⟩
  | true =>
    have HR := hide hr
    have h' : k < 0 ∨ (0 ≤ k ∧ b ≤ k) := by rw [hr] at h; simp at h; omega
    clear h hr
    rcases h' with h1 | ⟨h1, h2⟩
    all_goals
      go_enter Try.func33, Try.ntmps33
      go_wp2_with (go_at_call 28; refine (hist_right _ _ _).mono ?_; rintro e w' ⟨rfl, rfl⟩; simp only [HR.out])
      go_ret3
      exact ⟨rfl, rfl⟩
theorem Hist.prod {k d : Int} (h0 : 0 ≤ k) (h1 : k ≤ 64) (d1 : 1 ≤ d) (d2 : d ≤ 4096) : 0 ≤ k * d ∧ k * d ≤ 262144 ∧ 0 ≤ (k + 1) * d ∧ (k + 1) * d ≤ 266240 ∧ (k + 1) * d = k * d + d := by
  have a := Int.mul_nonneg h0 (show 0 ≤ d by omega)
  have b : k * d ≤ 64 * d := Int.mul_le_mul_of_nonneg_right h1 (by omega)
  have c : (k + 1) * d = k * d + d := by rw [Int.add_mul, Int.one_mul]
  omega
theorem edge_last (b d : Int) (h : right b d = true) (w : World) : Calls Try.prog 33 #[.int .i64 b, .int .i64 d, .int .i64 (b - 1)] w fun e w' => e = .returned (.tuple #[.int .i64 ((b - 1) * d), .int .i64 0, .bool false]) ∧ w = w' := by
  obtain ⟨b1, b2, d1, d2⟩ := right_yes h
  obtain ⟨p0, p1, -, -, -⟩ := Hist.prod (k := b - 1) (by omega) (by omega) d1 d2
  have HR := hide h
  have e1 : (b - 1 == b - 1) = true := by simp
  clear h
  go_enter Try.func33, Try.ntmps33
  go_wp2_with (go_at_call 28; refine (hist_right _ _ _).mono ?_; rintro e w' ⟨rfl, rfl⟩; simp only [HR.out])
  go_ret3
  exact ⟨rfl, rfl⟩
theorem edge_mid (b d k : Int) (h : right b d = true) (h0 : 0 ≤ k) (h1 : k < b - 1) (w : World) : Calls Try.prog 33 #[.int .i64 b, .int .i64 d, .int .i64 k] w fun e w' => e = .returned (.tuple #[.int .i64 (k * d), .int .i64 ((k + 1) * d), .bool true]) ∧ w = w' := by
  obtain ⟨b1, b2, d1, d2⟩ := right_yes h
  obtain ⟨p0, p1, p2, p3, -⟩ := Hist.prod (k := k) h0 (by omega) d1 d2
  have HR := hide h
  have e1 : (k == b - 1) = false := by rw [beq_eq_false_iff_ne]; omega
  clear h
  go_enter Try.func33, Try.ntmps33
  go_wp2_with (go_at_call 28; refine (hist_right _ _ _).mono ?_; rintro e w' ⟨rfl, rfl⟩; simp only [HR.out])
  go_ret3
  exact ⟨rfl, rfl⟩

set_option maxRecDepth 100000 in
set_option maxHeartbeats 2000000 in
theorem histEdges_no (b d n : Int) (h : right b d = false) (w : World) :
    Calls Try.prog 7 #[.int .i64 b, .int .i64 d, .int .i64 n] w fun e w' => e = .returned (.bool true) ∧ Below w.heap.size w w' := by
  have HR := hide h
  clear h
  go_enter Try.func7, Try.ntmps7
  go_wp2_with (first
    | (go_at_call 26; refine (right_law _ _ _).mono ?_; rintro e w' ⟨rfl, rfl⟩; simp only [HR.out])
    | (go_at_call 33; refine (edge_no _ _ _ (.inl HR.out) _).mono ?_; rintro e w1 ⟨rfl, rfl⟩)
    | (go_at_call 29; refine (hist_alive _).mono ?_; rintro e w9 ⟨rfl, hb9⟩))
  go_ret
  exact ⟨rfl, hb9⟩
set_option maxRecDepth 100000 in
set_option maxHeartbeats 2000000 in
theorem histEdges_neg (b d n : Int) (h : right b d = true) (hn : n < 0) (w : World) :
    Calls Try.prog 7 #[.int .i64 b, .int .i64 d, .int .i64 n] w fun e w' => e = .returned (.bool true) ∧ Below w.heap.size w w' := by
  have HR := hide h
  clear h
  go_enter Try.func7, Try.ntmps7
  go_wp2_with (first
    | (go_at_call 26; refine (right_law _ _ _).mono ?_; rintro e w' ⟨rfl, rfl⟩; simp only [HR.out])
    | (go_at_call 33; refine (edge_no _ _ _ (.inr (.inl hn)) _).mono ?_; rintro e w1 ⟨rfl, rfl⟩)
    | (go_at_call 29; refine (hist_alive _).mono ?_; rintro e w9 ⟨rfl, hb9⟩))
  go_ret
  exact ⟨rfl, hb9⟩

set_option maxRecDepth 100000 in
set_option maxHeartbeats 4000000 in
theorem histEdges_yes (b d n : Int) (h : right b d = true) (hn : 0 ≤ n) (hn1 : n ≤ 9223372036854775807) (w : World) :
    Calls Try.prog 7 #[.int .i64 b, .int .i64 d, .int .i64 n] w fun e w' => e = .returned (.bool true) ∧ Below w.heap.size w w' := by
  obtain ⟨b1, b2, d1, d2⟩ := right_yes h
  have HR := hide h
  have eb : Hist.bin b d n = (binOf b d n, 0) := by unfold Hist.bin; rw [h, if_pos rfl, if_neg (by omega)]
  have EB := hide eb
  obtain ⟨r0, r1⟩ := binOf_range b1 d1 hn
  clear h eb
  go_enter Try.func7, Try.ntmps7
  go_wp2_with (first
    | (go_at_call 26; refine (right_law _ _ _).mono ?_; rintro e w' ⟨rfl, rfl⟩; simp only [HR.out])
    | (go_at_call 27; refine (hist_bin _ _ _ hn1 _).mono ?_; rintro e w' ⟨rfl, rfl⟩; simp only [EB.out]))
  generalize hq : binOf b d n = q at *
  have HQ := hide hq
  clear hq
  go_loop [12] (fun i => ∃ k : Int, 0 ≤ k ∧ k ≤ b ∧ i = .int .i64 k) (fun i => (b + 1 - intOf i).toNat)
  case atStart => exact ⟨0, by omega, by omega, rfl⟩
  case round =>
    obtain ⟨k, k0, k1, rfl⟩ := hrel
    obtain ⟨p0, p1, p2, p3, p4⟩ := Hist.prod (k := k) k0 (by omega) d1 d2
    rcases Int.lt_trichotomy k (b - 1) with hk | hk | hk
    · have e1 : (k == b) = false := by rw [beq_eq_false_iff_ne]; omega
      have t1 : decide (k < b - 1) = true := by simpa using hk
      have hcase : ((q == k) = true ∧ (k == q) = true ∧ k * d ≤ n ∧ n < (k + 1) * d) ∨ ((q == k) = false ∧ (k == q) = false ∧ (n < k * d ∨ (k * d ≤ n ∧ (k + 1) * d ≤ n))) := by
        by_cases hin : k * d ≤ n ∧ n < (k + 1) * d
        · have := bin_mid (b := b) d1 (by omega) hin.1 hin.2
          rw [HQ.out] at this
          exact .inl ⟨by simpa using this, by simpa using this.symm, hin⟩
        · refine .inr ⟨?_, ?_, by omega⟩
          all_goals
            rw [beq_eq_false_iff_ne]
            intro hh
            apply hin
            have hqk : binOf b d n = k := by rw [HQ.out]; omega
            unfold binOf at hqk
            have hdk : n / d = k := by omega
            have ee := Int.mul_ediv_add_emod n d
            have ea := Int.emod_nonneg n (show d ≠ 0 by omega)
            have ec := Int.emod_lt_of_pos n (show 0 < d by omega)
            rw [hdk, Int.mul_comm] at ee
            omega
      have P4 := hide p4
      clear p4
      have e2 : ((k + 1) * d != k * d + d) = false := by rw [P4.out]; simp
      rcases hcase with ⟨c1, c1', c2, c3⟩ | ⟨c1, c1', c2 | ⟨c2, c3⟩⟩
      all_goals
        go_wp2_with (go_at_call 33; refine (edge_mid b d k HR.out k0 hk _).mono ?_; rintro e w1 ⟨rfl, rfl⟩)
        go_round
        case rel => exact ⟨k + 1, by omega, by omega, rfl⟩
        case measure => simp [intOf]; omega
    · subst hk
      have e1 : (b - 1 == b) = false := by rw [beq_eq_false_iff_ne]; omega
      have t1 : decide (b - 1 < b - 1) = false := by simp
      have hcase : ((b - 1 == q) = true ∧ (b - 1) * d ≤ n) ∨ ((b - 1 == q) = false ∧ n < (b - 1) * d) := by
        by_cases hin : (b - 1) * d ≤ n
        · have := bin_last (b := b) d1 rfl hin
          rw [HQ.out] at this
          exact .inl ⟨by simpa using this.symm, hin⟩
        · refine .inr ⟨?_, by omega⟩
          rw [beq_eq_false_iff_ne]
          intro hh
          apply hin
          have hqk : binOf b d n = b - 1 := by rw [HQ.out]; omega
          unfold binOf at hqk
          have hdk : b - 1 ≤ n / d := by omega
          have := Int.mul_le_mul_of_nonneg_right hdk (show 0 ≤ d by omega)
          have ee := Int.mul_ediv_add_emod n d
          have ea := Int.emod_nonneg n (show d ≠ 0 by omega)
          rw [Int.mul_comm] at ee
          omega
      rcases hcase with ⟨c1, c2⟩ | ⟨c1, c2⟩
      all_goals
        go_wp2_with (go_at_call 33; refine (edge_last b d HR.out _).mono ?_; rintro e w1 ⟨rfl, rfl⟩)
        go_round
        case rel => exact ⟨b, by omega, by omega, rfl⟩
        case measure => simp [intOf]; omega
    · obtain rfl : k = b := by omega
      go_wp2_with (first
        | (go_at_call 33; refine (edge_no k d k (.inr (.inr (by omega))) _).mono ?_; rintro e w1 ⟨rfl, rfl⟩)
        | (go_at_call 29; refine (hist_alive _).mono ?_; rintro e w9 ⟨rfl, hb9⟩))
      go_ret
      exact ⟨rfl, hb9⟩

set_option maxRecDepth 100000 in
theorem histEdges_lifted (os : Os) (started : os.Started) (H : Type) (enc : TypeId × Value → H) :
    ReturnsInHanded {} Try.checked os 7 .any (Rows.histEdgesSpec.pre6 enc Try.prog Try.f7 [] false) (Rows.histEdgesSpec.post enc Try.prog Try.f7 false true false false) := by
  refine law_lifted (C := Try.checked) Try.own started (by kernel_rfl) Try.func7
    (ChangeSpec.witness6 (enc := enc) (C := Try.checked) false ⟨#[], #[.int .i64 0, .int .i64 0, .int .i64 0], []⟩ 8 (by kernel_rfl) (by kernel_rfl) (by kernel_rfl) (by kernel_rfl))
    Try.laidOut (show ∀ t ∈ [3, 3, 3], Try.prog.readableRec t = true ∧ t < Try.prog.types.size from by
      intro t ht; simp only [List.mem_cons, List.not_mem_nil, or_false] at ht; rcases ht with rfl | rfl | rfl <;> exact ⟨by kernel_rfl, of_decide_eq_true (by kernel_rfl)⟩) (tb := 4) (by kernel_rfl) Try.underlying4 rfl (fun ds hd => ?_) ?_
  · match ds, hd with
    | [_, _, _], _ => rfl
  · intro W base args ds p hval hA
    have hval' : ∀ (j : Nat) t v, Try.f7.params[j]? = some t → args[j]? = some v → Value.okWide Try.prog W .any base t v := hval
    rw [Try.params7] at hA hval'
    obtain ⟨v0, v1, v2, d0, d1, d2, p0, p1, p2, rfl, rfl, rfl, h0, h1, h2⟩ := trodAll_three hA
    obtain ⟨a0, rfl, w0⟩ := arg_int Try.underlying3 (hval' 0 _ _ rfl rfl) h0
    obtain ⟨a1, rfl, w1⟩ := arg_int Try.underlying3 (hval' 1 _ _ rfl rfl) h1
    obtain ⟨a2, rfl, w2⟩ := arg_int Try.underlying3 (hval' 2 _ _ rfl rfl) h2
    cases hr : right a0 a1 with
    | false => exact histEdges_no a0 a1 a2 hr W
    | true =>
      by_cases hn : a2 < 0
      · exact histEdges_neg a0 a1 a2 hr hn W
      · exact histEdges_yes a0 a1 a2 hr (by omega) (bounds_i64 w2).2 W

theorem histEdges_holds : Rows.HistEdgesSaid :=
  OpenClaim.holds_of_wide 7 Try.f7 rfl rfl rfl rfl rfl rfl rfl ⟨rfl, rfl, rfl, rfl, rfl⟩ rfl rfl rfl rfl rfl (by kernel_rfl) Try.func7 (by kernel_rfl)
    (of_decide_eq_true (by kernel_rfl)) (by unfold Func.isWrapper; first | (rw [if_pos (by decide +kernel)]; kernel_rfl) | (rw [if_neg (by decide +kernel)]; exact ⟨rfl, rfl⟩))
    (fun os started H enc _ => histEdges_lifted os started H enc)
#print axioms histEdges_holds
end Go.Proofs.Ytkgkilogjodccaa
