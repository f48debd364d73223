/-
  The walks of package lcg and of the law LcgJumps: a step, so many steps at once, a step back.
-/
import Derived.Test.YtikdkljknbgphaaProg
import Derived.Test.YtikdkljknbgphaaBase
import Derived.Test.YtikdkljknbgphaaLcgPlain
namespace Go.Proofs.Ytikdkljknbgphaa
open Go.RowKit LcgP HB

theorem Lcg.wrapM (n : Int) : IntKind.u64.wrap n = n % M := by rw [IntKind.wrap_u64]; rfl
theorem Lcg.wrap_range (n : Int) : 0 ≤ IntKind.u64.wrap n ∧ IntKind.u64.wrap n < M := by rw [Lcg.wrapM]; exact ⟨Int.emod_nonneg _ (by decide), Int.emod_lt_of_pos _ (by decide)⟩
theorem Lcg.step_eq (s : Int) : IntKind.u64.wrap (IntKind.u64.wrap (s * 6364136223846793005) + 1442695040888963407) = S s := by
  rw [Lcg.wrapM, Lcg.wrapM, Int.emod_add_emod]; rfl
theorem Lcg.aff_eq (s m a : Int) : IntKind.u64.wrap (IntKind.u64.wrap (s * m) + a) = aff m a s := by
  rw [Lcg.wrapM, Lcg.wrapM, Int.emod_add_emod]; rfl
theorem Lcg.mul_eq (m : Int) : IntKind.u64.wrap (m * m) = m * m % M := Lcg.wrapM _
theorem Lcg.add_eq (m a : Int) : IntKind.u64.wrap (a * IntKind.u64.wrap (m + 1)) = a * (m + 1) % M := by
  rw [Lcg.wrapM, Lcg.wrapM, Int.mul_emod, Int.emod_emod_of_dvd _ (Int.dvd_refl _), ← Int.mul_emod]

theorem lcg_step (s : Int) (w : World) : Calls Try.prog 15 #[.int .u64 s] w fun e w' => e = .returned (.int .u64 (S s)) ∧ w = w' := by
  go_enter Try.func15, Try.ntmps15
  go_wp2
  go_ret
  rw [← Lcg.step_eq s]
  exact ⟨rfl, rfl⟩

/-- What the loop of Jump keeps: the steps that are left, by the present step, come to the same. -/
def Lcg.Rel (s n : Int) (a b c d : Value) : Prop := ∃ x y m t : Int, a = .int .u64 x ∧ b = .int .u64 y ∧ c = .int .u64 m ∧ d = .int .u64 t ∧ 0 ≤ x ∧ x < M ∧ 0 ≤ y ∧ y < M ∧ itr (aff m t) y.toNat x = J n s

theorem Lcg.rel_odd {s n x y m t : Int} (hy : 0 ≤ y) (hy1 : y < M) (hodd : y % 2 = 1) (h : itr (aff m t) y.toNat x = J n s) :
    Lcg.Rel s n (.int .u64 (IntKind.u64.wrap (IntKind.u64.wrap (x * m) + t))) (.int .u64 (y / 2)) (.int .u64 (IntKind.u64.wrap (m * m))) (.int .u64 (IntKind.u64.wrap (t * IntKind.u64.wrap (m + 1)))) := by
  rw [Lcg.aff_eq, Lcg.mul_eq, Lcg.add_eq]
  refine ⟨_, _, _, _, rfl, rfl, rfl, rfl, (aff_range _ _ _).1, (aff_range _ _ _).2, by omega, by omega, ?_⟩
  rw [← h, itr_half m t y.toNat x, if_pos (by omega), show (y / 2).toNat = y.toNat / 2 from by omega]
theorem Lcg.rel_even {s n x y m t : Int} (hx : 0 ≤ x) (hx1 : x < M) (hy : 0 ≤ y) (hy1 : y < M) (hodd : ¬ y % 2 = 1) (h : itr (aff m t) y.toNat x = J n s) :
    Lcg.Rel s n (.int .u64 x) (.int .u64 (y / 2)) (.int .u64 (IntKind.u64.wrap (m * m))) (.int .u64 (IntKind.u64.wrap (t * IntKind.u64.wrap (m + 1)))) := by
  rw [Lcg.mul_eq, Lcg.add_eq]
  refine ⟨_, _, _, _, rfl, rfl, rfl, rfl, hx, hx1, by omega, by omega, ?_⟩
  rw [← h, itr_half m t y.toNat x, if_neg (by omega), show (y / 2).toNat = y.toNat / 2 from by omega]
theorem Lcg.bit_eq {y : Int} (h0 : 0 ≤ y) (h1 : y < M) : (bits BinOp.and IntKind.u64 y 1 == 1) = (y % 2 == 1) := by
  rw [and_one_u64 y h0 (by unfold M at h1; omega)]
theorem Lcg.bit_yes {y : Int} (h0 : 0 ≤ y) (h1 : y < M) (h : (bits BinOp.and IntKind.u64 y 1 == 1) = true) : y % 2 = 1 := by
  rw [and_one_u64 y h0 (by unfold M at h1; omega)] at h; simpa using h
theorem Lcg.bit_no {y : Int} (h0 : 0 ≤ y) (h1 : y < M) (h : (bits BinOp.and IntKind.u64 y 1 == 1) = false) : ¬ y % 2 = 1 := by
  rw [and_one_u64 y h0 (by unfold M at h1; omega)] at h; simpa using h
theorem Lcg.end_ {s n x y m t : Int} (hy : 0 ≤ y) (h0 : y ≤ 0) (h : itr (aff m t) y.toNat x = J n s) : x = J n s := by
  rw [show y.toNat = 0 from by omega] at h; exact h

set_option maxHeartbeats 400000 in
theorem lcg_jump (s n : Int) (hs : 0 ≤ s) (hs1 : s < M) (hn : 0 ≤ n) (hn1 : n < M) (w : World) :
    Calls Try.prog 16 #[.int .u64 s, .int .u64 n] w fun e w' => e = .returned (.int .u64 (J n s)) ∧ w = w' := by
  go_enter Try.func16, Try.ntmps16
  go_wp2
  go_loop [0, 1, 5, 6] (fun a b c d => Lcg.Rel s n a b c d) (fun a b c d => (intOf b).toNat)
  case atStart => exact ⟨_, _, _, _, rfl, rfl, rfl, rfl, hs, hs1, hn, hn1, rfl⟩
  case round =>
    obtain ⟨x, y, m, t, rfl, rfl, rfl, rfl, hx, hx1, hy, hy1, hrel⟩ := hrel
    have H := hide hrel
    clear hrel
    by_cases hpos : 0 < y
    · rcases (show y % 2 = 0 ∨ y % 2 = 1 by omega) with hb | hb
      · have hbit : (bits BinOp.and IntKind.u64 y 1 == 1) = false := by rw [Lcg.bit_eq hy hy1]; simp [hb]
        clear hb
        go_wp2
        go_round
        case rel => exact Lcg.rel_even hx hx1 hy hy1 (Lcg.bit_no hy hy1 hbit) H.out
        case measure => simp [intOf]; omega
      · have hbit : (bits BinOp.and IntKind.u64 y 1 == 1) = true := by rw [Lcg.bit_eq hy hy1]; simp [hb]
        clear hb
        go_wp2
        go_round
        case rel => exact Lcg.rel_odd hy hy1 (Lcg.bit_yes hy hy1 hbit) H.out
        case measure => simp [intOf]; omega
    · have hpos' : y ≤ 0 := by omega
      go_wp2
      go_ret
      rw [← Lcg.end_ hy hpos' H.out]
      exact ⟨rfl, rfl⟩
theorem lcg_back (s : Int) (hs : 0 ≤ s) (hs1 : s < M) (w : World) : Calls Try.prog 17 #[.int .u64 s] w fun e w' => e = .returned (.int .u64 (B s)) ∧ w = w' := by
  go_enter Try.func17, Try.ntmps17
  go_wp2_with (go_at_call 16; refine (lcg_jump _ _ hs hs1 (by omega) (by unfold M; omega) _).mono ?_; rintro e w' ⟨rfl, rfl⟩)
  go_ret
  exact ⟨rfl, rfl⟩
theorem lcg_alive (w : World) : Calls Try.prog 18 #[] w fun e w' => e = .returned (.bool true) ∧ w = w' := by
  have h0 : S 0 = 1442695040888963407 := rfl
  go_enter Try.func18, Try.ntmps18
  go_wp2_with (go_at_call 15; refine (lcg_step _ _).mono ?_; rintro e w' ⟨rfl, rfl⟩)
  go_ret
  simp
end Go.Proofs.Ytikdkljknbgphaa
