/-
  The law PickWeighs holds: whatever the words and the weights, the call returns true and turns nothing. No condition.
-/
import Derived.Test.YtikdkljknbgphaaRows
import Derived.Test.YtikdkljknbgphaaFrame
import Derived.Test.YtikdkljknbgphaaPick
namespace Go.Proofs.Ytikdkljknbgphaa
open Go.ChangeShapes Go.WideShapes Go.ChangeAt Go.RowKit HB PickP

set_option maxRecDepth 100000 in
set_option maxHeartbeats 4000000 in
theorem pickWeighs_walk (A : Option Addr) (n c : Nat) (l : List Int) (v x : Int) (w : World) (hr : Rd w w.heap.size 1 A n (l.map (Value.int .i64))) (hl : l.length = n) (hw : ∀ x ∈ l, (Lit.int .i64 x).wf = true) (hv : 0 ≤ v) (hv1 : v ≤ 4294967295) (hx : 0 ≤ x) (hx1 : x ≤ 4294967295) :
    Calls Try.prog 11 #[.int .u32 v, .int .u32 x, .slice A n c] w fun e w' => e = .returned (.bool true) ∧ Below w.heap.size w w' := by
  by_cases hbig : 200 < n
  · go_enter Try.func11, Try.ntmps11
    go_wp2_with fail
    go_ret
    exact ⟨rfl, Below.refl _ _⟩
  have hn : n ≤ 200 := by omega
  clear hbig
  by_cases hvx : x < v
  · go_enter Try.func11, Try.ntmps11
    go_wp2_with fail
    go_ret
    exact ⟨rfl, Below.refl _ _⟩
  have hle : v ≤ x := by omega
  clear hvx
  have Hl := hide hl
  have Hw := hide hw
  clear hl hw
  rcases total_cases l with ⟨er, ht, her⟩ | ⟨hpos, ht, hs, hs1⟩
  · have T := hide ht
    have hb : (er != 0) = true := by rw [bne_iff_ne]; omega
    clear ht
    go_enter Try.func11, Try.ntmps11
    go_wp2_with fail
    refine (pick_of_no A n c _ l v er _ hr Hl.out hn Hw.out T.out her).mono ?_; rintro e w' ⟨rfl, rfl⟩
    go_wp2_with fail
    refine (pick_of_no A n c _ l x er _ hr Hl.out hn Hw.out T.out her).mono ?_; rintro e w' ⟨rfl, rfl⟩
    go_wp2_with (go_at_call 44; refine (pick_alive _).mono ?_; rintro e w1 ⟨rfl, hb1⟩)
    go_ret
    exact ⟨rfl, hb1⟩
  · have T := hide ht
    have Hp := hide hpos
    clear ht hpos
    go_enter Try.func11, Try.ntmps11
    go_wp2_with fail
    refine (pick_of A n c _ l v _ hr Hl.out hn Hw.out hv hv1 Hp.out T.out hs hs1).mono ?_; rintro e w' ⟨k, rfl, hk, rfl⟩
    have Hk := hide hk
    clear hk
    go_wp2_with fail
    refine (pick_of A n c _ l x _ hr Hl.out hn Hw.out hx hx1 Hp.out T.out hs hs1).mono ?_; rintro e w' ⟨k', rfl, hk', rfl⟩
    have hkk : k ≤ k' := Spot.le Hp.out Hk.out hk' (num_mono hle (Int.le_of_lt hs))
    have hk1 : k < n := by have := Hk.out.1; rwa [Hl.out] at this
    have hk2 : k' < n := by have := hk'.1; rwa [Hl.out] at this
    obtain ⟨b, off, y, hA, hb, hg, c0⟩ := hr.int_at Hl.out hk1
    obtain ⟨b', off', y', hA', hb', hg', c0'⟩ := hr.int_at Hl.out hk2
    rw [hA] at hA'
    simp only [Option.some.injEq, Addr.mk.injEq, and_true] at hA'
    obtain ⟨rfl, rfl⟩ := hA'
    have hy := Hk.out.weighs hg
    have hy' := hk'.weighs hg'
    subst hA
    clear hg hg' hk' hr
    have d1 : decide (k ≤ k') = true := by simpa using hkk
    have d2 : decide (k' < n) = true := by simpa using hk2
    have d3 : decide (0 < y) = true := by simpa using hy
    have d4 : decide (0 < y') = true := by simpa using hy'
    have d5 : decide ((k : Int) ≤ (k' : Int)) = true := by simpa using hkk
    have d6 : decide ((k' : Int) < (n : Int)) = true := by simpa using hk2
    have d7 : decide ((0 : Int) ≤ (k : Int)) = true := by simp
    go_wp2_with (go_at_call 44; refine (pick_alive _).mono ?_; rintro e w1 ⟨rfl, hb1⟩)
    go_ret
    exact ⟨rfl, hb1⟩

set_option maxRecDepth 100000 in
theorem pickWeighs_lifted (os : Os) (started : os.Started) (H : Type) (enc : TypeId × Value → H) :
    ReturnsInHanded {} Try.checked os 11 .any (Rows.pickWeighsSpec.pre6 enc Try.prog Try.f11 [] false) (Rows.pickWeighsSpec.post enc Try.prog Try.f11 false true false false) := by
  refine law_lifted (C := Try.checked) Try.own started (by kernel_rfl) Try.func11
    (ChangeSpec.witness6 (enc := enc) (C := Try.checked) false ⟨#[], #[.int .u32 0, .int .u32 0, .slice none 0 0], []⟩ 8 (by kernel_rfl) (by kernel_rfl) (by kernel_rfl) (by kernel_rfl))
    Try.laidOut (show ∀ t ∈ [33, 33, 61], Try.prog.readableRec t = true ∧ t < Try.prog.types.size from by
      intro t ht; simp only [List.mem_cons, List.not_mem_nil, or_false] at ht; rcases ht with rfl | rfl | rfl <;> exact ⟨by kernel_rfl, of_decide_eq_true (by kernel_rfl)⟩) (tb := 4) (by kernel_rfl) Try.underlying4 rfl (fun ds hd => ?_) ?_
  · match ds, hd with
    | [_, _, _], _ => rfl
  · intro W base args ds p hval hA
    have hval' : ∀ (j : Nat) t v, Try.f11.params[j]? = some t → args[j]? = some v → Value.okWide Try.prog W .any base t v := hval
    rw [Try.params11] at hA hval'
    obtain ⟨v0, v1, v2, d0, d1, d2, p0, p1, p2, rfl, rfl, rfl, h0, h1, h2⟩ := trodAll_three hA
    obtain ⟨v, rfl, w0⟩ := arg_int Try.underlying33 (hval' 0 _ _ rfl rfl) h0
    obtain ⟨x, rfl, w1⟩ := arg_int Try.underlying33 (hval' 1 _ _ rfl rfl) h1
    obtain ⟨A, n, c, l, rfl, hl, hc, _, hw, hr⟩ := arg_ints Try.underlying61 Try.underlying3 (by kernel_rfl) (hval' 2 _ _ rfl rfl) h2
    have b0 := bounds_u32 w0
    have b1 := bounds_u32 w1
    exact pickWeighs_walk A n c l v x W hr hl hw b0.1 b0.2 b1.1 b1.2

theorem pickWeighs_holds : Rows.PickWeighsSaid :=
  OpenClaim.holds_of_wide 11 Try.f11 rfl rfl rfl rfl rfl rfl rfl ⟨rfl, rfl, rfl, rfl, rfl⟩ rfl rfl rfl rfl rfl (by kernel_rfl) Try.func11 (by kernel_rfl)
    (of_decide_eq_true (by kernel_rfl)) (by unfold Func.isWrapper; first | (rw [if_pos (by decide +kernel)]; kernel_rfl) | (rw [if_neg (by decide +kernel)]; exact ⟨rfl, rfl⟩))
    (fun os started H enc _ => pickWeighs_lifted os started H enc)
#print axioms pickWeighs_holds
end Go.Proofs.Ytikdkljknbgphaa
