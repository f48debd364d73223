/-
  The law LcgJumps holds: whatever the state, the number of steps and k, the call returns true and turns nothing. No condition.
-/
import Derived.Test.YtikdkljknbgphaaRows
import Derived.Test.YtikdkljknbgphaaFrame
import Derived.Test.YtikdkljknbgphaaLcg
namespace Go.Proofs.Ytikdkljknbgphaa
open Go.ChangeShapes Go.WideShapes Go.ChangeAt Go.RowKit LcgP HB

set_option maxRecDepth 100000 in
set_option maxHeartbeats 1000000 in
theorem lcgJumps_walk (s n k : Int) (hs : 0 ≤ s) (hs1 : s < M) (hn : 0 ≤ n) (hn1 : n < M) (w : World) :
    Calls Try.prog 3 #[.int .u64 s, .int .u64 n, .int .i64 k] w fun e w' => e = .returned (.bool true) ∧ w = w' := by
  by_cases hk : k < 0
  · go_enter Try.func3, Try.ntmps3
    go_wp2
    go_ret
    exact ⟨rfl, rfl⟩
  by_cases hk1 : 300 < k
  · go_enter Try.func3, Try.ntmps3
    go_wp2
    go_ret
    exact ⟨rfl, rfl⟩
  have hk0 : 0 ≤ k := by omega
  have hk2 : k ≤ 300 := by omega
  have hd0 : decide (k < 0) = false := by simp; omega
  have hd1 : decide (300 < k) = false := by simp; omega
  clear hk hk1
  have rJ := J_range n s hs hs1
  have H0 := hide (J_zero s)
  have H1 := hide (S_B s hs hs1)
  have H2 := hide (B_S s hs hs1)
  have H3 := hide (show J k (J n s) = J (IntKind.u64.wrap (n + k)) s from by rw [Lcg.wrapM]; exact J_J n k s hn hk0 hs hs1)
  have H4 := hide (show S (J n s) = J (IntKind.u64.wrap (n + 1)) s from by rw [Lcg.wrapM]; exact S_J n s hn hs hs1)
  have rS := S_range s
  have RJ := hide rJ
  have RS := hide rS
  clear rJ rS
  go_enter Try.func3, Try.ntmps3
  go_wp2_with fail
  go_loop [7, 8] (fun t i => ∃ j : Int, 0 ≤ j ∧ j ≤ k ∧ t = .int .u64 (J j s) ∧ i = .int .i64 j) (fun _ i => (k - intOf i).toNat)
  case atStart => exact ⟨0, by omega, hk0, by rw [J_zero], rfl⟩
  case round =>
    obtain ⟨j, hj0, hj1, rfl, rfl⟩ := hrel
    by_cases hlt : j < k
    · go_wp2_with (go_at_call 15; refine (lcg_step _ _).mono ?_; rintro e w' ⟨rfl, rfl⟩)
      go_round
      case rel => exact ⟨j + 1, by omega, by omega, by rw [J_succ j s hj0], rfl⟩
      case measure => simp [intOf]; omega
    · have hge : k ≤ j := by omega
      obtain rfl : j = k := by omega
      clear hlt hge
      go_wp2_with (fail)
      refine (lcg_jump _ _ hs hs1 (by omega) (by unfold M; omega) _).mono ?_; rintro e w' ⟨rfl, rfl⟩
      go_wp2_with (fail)
      refine (lcg_jump _ _ hs hs1 (by omega) (by unfold M; omega) _).mono ?_; rintro e w' ⟨rfl, rfl⟩; simp only [H0.out]
      go_wp2_with (fail)
      refine (lcg_back _ hs hs1 _).mono ?_; rintro e w' ⟨rfl, rfl⟩
      go_wp2_with (fail)
      refine (lcg_step _ _).mono ?_; rintro e w' ⟨rfl, rfl⟩; simp only [H1.out]
      go_wp2_with (fail)
      refine (lcg_step _ _).mono ?_; rintro e w' ⟨rfl, rfl⟩
      go_wp2_with (fail)
      refine (lcg_back _ RS.out.1 RS.out.2 _).mono ?_; rintro e w' ⟨rfl, rfl⟩; simp only [H2.out]
      go_wp2_with (fail)
      refine (lcg_jump _ _ hs hs1 hn hn1 _).mono ?_; rintro e w' ⟨rfl, rfl⟩
      go_wp2_with (fail)
      refine (lcg_jump _ _ RJ.out.1 RJ.out.2 (by omega) (by unfold M; omega) _).mono ?_; rintro e w' ⟨rfl, rfl⟩; simp only [H3.out]
      go_wp2_with (fail)
      refine (lcg_jump _ _ hs hs1 (Lcg.wrap_range _).1 (Lcg.wrap_range _).2 _).mono ?_; rintro e w' ⟨rfl, rfl⟩
      go_wp2_with (fail)
      refine (lcg_jump _ _ hs hs1 hn hn1 _).mono ?_; rintro e w' ⟨rfl, rfl⟩
      go_wp2_with (fail)
      refine (lcg_step _ _).mono ?_; rintro e w' ⟨rfl, rfl⟩; simp only [H4.out]
      go_wp2_with (fail)
      refine (lcg_jump _ _ hs hs1 (Lcg.wrap_range _).1 (Lcg.wrap_range _).2 _).mono ?_; rintro e w' ⟨rfl, rfl⟩
      go_wp2_with (fail)
      refine (lcg_alive _).mono ?_; rintro e w' ⟨rfl, rfl⟩
      go_wp2_with (fail)
      go_ret
      simp

set_option maxRecDepth 100000 in
theorem lcgJumps_lifted (os : Os) (started : os.Started) (H : Type) (enc : TypeId × Value → H) :
    ReturnsInHanded {} Try.checked os 3 .any (Rows.lcgJumpsSpec.pre6 enc Try.prog Try.f3 [] false) (Rows.lcgJumpsSpec.post enc Try.prog Try.f3 false true false false) := by
  refine law_lifted (C := Try.checked) Try.own started (by kernel_rfl) Try.func3
    (ChangeSpec.witness6 (enc := enc) (C := Try.checked) false ⟨#[], #[.int .u64 0, .int .u64 0, .int .i64 0], []⟩ 8 (by kernel_rfl) (by kernel_rfl) (by kernel_rfl) (by kernel_rfl))
    Try.laidOut (show ∀ t ∈ [22, 22, 3], Try.prog.readableRec t = true ∧ t < Try.prog.types.size from by
      intro t ht; simp only [List.mem_cons, List.not_mem_nil, or_false] at ht; rcases ht with rfl | rfl | rfl <;> exact ⟨by kernel_rfl, of_decide_eq_true (by kernel_rfl)⟩) (tb := 4) (by kernel_rfl) Try.underlying4 rfl (fun ds hd => ?_) ?_
  · match ds, hd with
    | [_, _, _], _ => rfl
  · intro W base args ds p hval hA
    have hval' : ∀ (j : Nat) t v, Try.f3.params[j]? = some t → args[j]? = some v → Value.okWide Try.prog W .any base t v := hval
    rw [Try.params3] at hA hval'
    obtain ⟨v0, v1, v2, d0, d1, d2, p0, p1, p2, rfl, rfl, rfl, h0, h1, h2⟩ := trodAll_three hA
    obtain ⟨a0, rfl, w0⟩ := arg_int Try.underlying22 (hval' 0 _ _ rfl rfl) h0
    obtain ⟨a1, rfl, w1⟩ := arg_int Try.underlying22 (hval' 1 _ _ rfl rfl) h1
    obtain ⟨a2, rfl, w2⟩ := arg_int Try.underlying3 (hval' 2 _ _ rfl rfl) h2
    have b0 := bounds_u64 w0
    have b1 := bounds_u64 w1
    refine (lcgJumps_walk a0 a1 a2 b0.1 (by unfold M; omega) b1.1 (by unfold M; omega) W).mono ?_
    rintro e W' ⟨rfl, rfl⟩
    exact ⟨rfl, Below.refl _ _⟩

theorem lcgJumps_holds : Rows.LcgJumpsSaid :=
  OpenClaim.holds_of_wide 3 Try.f3 rfl rfl rfl rfl rfl rfl rfl ⟨rfl, rfl, rfl, rfl, rfl⟩ rfl rfl rfl rfl rfl (by kernel_rfl) Try.func3 (by kernel_rfl)
    (of_decide_eq_true (by kernel_rfl)) (by unfold Func.isWrapper; first | (rw [if_pos (by decide +kernel)]; kernel_rfl) | (rw [if_neg (by decide +kernel)]; exact ⟨rfl, rfl⟩))
    (fun os started H enc _ => lcgJumps_lifted os started H enc)
#print axioms lcgJumps_holds
end Go.Proofs.Ytikdkljknbgphaa
