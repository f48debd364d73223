/-
  The law LcgMakes holds: whatever the seed and n, the call returns true and turns nothing. No condition.
-/
import Derived.Test.YtikdkljknbgphaaRows
import Derived.Test.YtikdkljknbgphaaFrame
import Derived.Test.YtikdkljknbgphaaMakes
namespace Go.Proofs.Ytikdkljknbgphaa
open Go.ChangeShapes Go.WideShapes Go.ChangeAt Go.RowKit HB LcgP WordP

def Makes.Rel2 (s n : Int) (w : World) (o a i : Value) (wr : World) : Prop :=
  ∃ k : Nat, ((k : Int) ≤ n ∨ k = 0) ∧ i = .int .i64 k ∧ a = .int .u64 (J k s) ∧ Own wr w.heap.size 33 1 (num .u32) o (Makes.words s k) ∧ Below w.heap.size w wr

set_option maxRecDepth 100000 in
set_option maxHeartbeats 1000000 in
theorem lcgMakes_walk (s n : Int) (hs : 0 ≤ s) (hs1 : s < M) (hn : -9223372036854775808 ≤ n) (w : World) :
    Calls Try.prog 5 #[.int .u64 s, .int .i64 n] w fun e w' => e = .returned (.bool true) ∧ Below w.heap.size w w' := by
  by_cases hbig : 300 < n
  · go_enter Try.func5, Try.ntmps5
    go_wp2_with fail
    go_ret
    exact ⟨rfl, Below.refl _ _⟩
  have hn1 : n ≤ 300 := by omega
  have hd : decide (300 < n) = false := by simp; omega
  clear hbig
  go_enter Try.func5, Try.ntmps5
  go_wp2_with fail
  go_loopw [5, 6, 7] (fun o a i wr => Makes.Rel2 s n w o a i wr) (fun _ _ i _ => (300 - intOf i).toNat)
  case atStart => exact ⟨0, .inr rfl, rfl, rfl, Own.nil _ _ _ _ _, Below.refl _ _⟩
  case round =>
    obtain ⟨k, hk, rfl, rfl, hown, hbel⟩ := hrel
    have hk1 : (k : Int) ≤ 300 := by omega
    have hJ := J_range ((k : Int) + 1) s hs hs1
    have hz := hbel.size
    by_cases hlt : (k : Int) < n
    · have hS := hide (J_succ k s (by omega))
      have hlen := Makes.words_length s k
      have hL : (Makes.words s k).length ≤ 1000000000 := by omega
      clear hlen
      have hE := Lcg.step_eq (J k s)
      rw [hS.out] at hE
      go_wp2_with fail
      refine (word_law _ hJ.1 hJ.2 _).mono ?_; rintro e w' ⟨rfl, rfl⟩
      go_wp2_with (at_builtin; refine push rfl _ _ 32 rfl Try.underlying32 Makes.info rfl (by omega) (by omega) rfl (hown.alloc _) (Word.of (J ((k : Int) + 1) s)) ⟨_, 0, none⟩ 1 rfl rfl (cell_one_new _ _ _) (by simp [Value.oneCell']) hL (Nat.le_trans hz (by simp)) ?_; intro v' w1 hown1 hb1)
      go_roundw
      case rel => exact ⟨k + 1, .inl (by omega), by go_num, by go_num, by rw [Makes.words_succ]; exact hown1, (hbel.alloc hz _).trans hb1⟩
      case measure => simp [intOf]; omega
    · have hk' : k = (min n 1048576).toNat := by omega
      have Hk := hide hk'
      clear hk'
      have hlen := Makes.words_length s k
      have hL : (Makes.words s k).length ≤ 1000000000 := by omega
      have Hl := hide hlen
      clear hlen
      obtain ⟨A, c, rfl, hc, hrd⟩ := hown.ints
      have hE := hide (Lcg.step_eq s)
      go_wp2_with fail
      refine (lcg_make s n hs hs1 _).mono ?_; rintro e w1 ⟨v, rfl, hown1, hb1⟩
      rw [← Hk.out] at hown1
      obtain ⟨A1, c1, rfl, hc1, hrd1⟩ := hown1.ints
      have hrd' := hrd.below hb1
      go_wp2_with fail
      refine (eqU32 _ _ _ _ _ _ _ _ _ _ _ hrd1 hrd' hL hL).mono ?_; rintro e w2 ⟨rfl, m, rfl⟩
      simp only [decide_true]
      go_wp2_with fail
      refine (lcg_word s hs hs1 _).mono ?_; rintro e w' ⟨rfl, rfl⟩
      go_wp2_with fail
      refine (word_law s hs hs1 _).mono ?_; rintro e w' ⟨rfl, rfl⟩
      go_wp2_with fail
      refine (lcg_step s _).mono ?_; rintro e w' ⟨rfl, rfl⟩
      have hE2 := hE.out
      go_wp2_with fail
      refine (lcg_alive _).mono ?_; rintro e w' ⟨rfl, rfl⟩
      go_wp2_with fail
      go_ret
      exact ⟨rfl, then_ hbel (below_drewN hb1 _) (Nat.le_refl _)⟩

set_option maxRecDepth 100000 in
theorem lcgMakes_lifted (os : Os) (started : os.Started) (H : Type) (enc : TypeId × Value → H) :
    ReturnsInHanded {} Try.checked os 5 .any (Rows.lcgMakesSpec.pre6 enc Try.prog Try.f5 [] false) (Rows.lcgMakesSpec.post enc Try.prog Try.f5 false true false false) := by
  refine law_lifted (C := Try.checked) Try.own started (by kernel_rfl) Try.func5
    (ChangeSpec.witness6 (enc := enc) (C := Try.checked) false ⟨#[], #[.int .u64 0, .int .i64 0], []⟩ 8 (by kernel_rfl) (by kernel_rfl) (by kernel_rfl) (by kernel_rfl))
    Try.laidOut (show ∀ t ∈ [22, 3], Try.prog.readableRec t = true ∧ t < Try.prog.types.size from by
      intro t ht; simp only [List.mem_cons, List.not_mem_nil, or_false] at ht; rcases ht with rfl | rfl <;> exact ⟨by kernel_rfl, of_decide_eq_true (by kernel_rfl)⟩) (tb := 4) (by kernel_rfl) Try.underlying4 rfl (fun ds hd => ?_) ?_
  · match ds, hd with
    | [_, _], _ => rfl
  · intro W base args ds p hval hA
    have hval' : ∀ (j : Nat) t v, Try.f5.params[j]? = some t → args[j]? = some v → Value.okWide Try.prog W .any base t v := hval
    rw [Try.params5] at hA hval'
    obtain ⟨v0, v1, d0, d1, p0, p1, rfl, rfl, rfl, h0, h1⟩ := trodAll_two hA
    obtain ⟨a0, rfl, w0⟩ := arg_int Try.underlying22 (hval' 0 _ _ rfl rfl) h0
    obtain ⟨a1, rfl, w1⟩ := arg_int Try.underlying3 (hval' 1 _ _ rfl rfl) h1
    have b0 := bounds_u64 w0
    exact lcgMakes_walk a0 a1 b0.1 (by unfold M; omega) (bounds_i64 w1).1 W

theorem lcgMakes_holds : Rows.LcgMakesSaid :=
  OpenClaim.holds_of_wide 5 Try.f5 rfl rfl rfl rfl rfl rfl rfl ⟨rfl, rfl, rfl, rfl, rfl⟩ rfl rfl rfl rfl rfl (by kernel_rfl) Try.func5 (by kernel_rfl)
    (of_decide_eq_true (by kernel_rfl)) (by unfold Func.isWrapper; first | (rw [if_pos (by decide +kernel)]; kernel_rfl) | (rw [if_neg (by decide +kernel)]; exact ⟨rfl, rfl⟩))
    (fun os started H enc _ => lcgMakes_lifted os started H enc)
#print axioms lcgMakes_holds
end Go.Proofs.Ytikdkljknbgphaa
