/-
  The law PickTells holds: whatever the word and the weights, the call returns true and turns nothing. No condition.
-/
import Derived.Test.YtikdkljknbgphaaRows
import Derived.Test.YtikdkljknbgphaaFrame
import Derived.Test.YtikdkljknbgphaaPick
namespace Go.Proofs.Ytikdkljknbgphaa
open Go.ChangeShapes Go.WideShapes Go.ChangeAt Go.RowKit HB PickP

set_option maxRecDepth 100000 in
set_option maxHeartbeats 2000000 in
theorem pickTells_walk (A : Option Addr) (n c : Nat) (l : List Int) (x : Int) (w : World) (hr : Rd w w.heap.size 1 A n (l.map (Value.int .i64))) (hl : l.length = n) (hw : ∀ x ∈ l, (Lit.int .i64 x).wf = true) (hx : 0 ≤ x) (hx1 : x ≤ 4294967295) :
    Calls Try.prog 10 #[.int .u32 x, .slice A n c] w fun e w' => e = .returned (.bool true) ∧ Below w.heap.size w w' := by
  by_cases hbig : 200 < n
  · go_enter Try.func10, Try.ntmps10
    go_wp2_with fail
    go_ret
    exact ⟨rfl, Below.refl _ _⟩
  have hn : n ≤ 200 := by omega
  clear hbig
  have Hl := hide hl
  have Hw := hide hw
  clear hl hw
  rcases total_cases l with ⟨er, ht, her⟩ | ⟨hpos, ht, hs, hs1⟩
  · have T := hide ht
    clear ht
    go_enter Try.func10, Try.ntmps10
    go_wp2_with (first
      | (go_at_call 40; refine (pick_total A n c _ l _ hr Hl.out hn Hw.out).mono ?_; rintro e w' ⟨rfl, rfl⟩; simp only [T.out])
      | (go_at_call 41; refine (ref_total A n c _ l _ hr Hl.out hn Hw.out).mono ?_; rintro e w' ⟨rfl, rfl⟩; simp only [T.out])
      | (go_at_call 42; refine (pick_of_no A n c _ l x er _ hr Hl.out hn Hw.out T.out her).mono ?_; rintro e w' ⟨rfl, rfl⟩)
      | (go_at_call 43; refine (ref_of_no A n c _ l x er _ hr Hl.out hn Hw.out T.out her).mono ?_; rintro e w' ⟨rfl, rfl⟩)
      | (go_at_call 44; refine (pick_alive _).mono ?_; rintro e w1 ⟨rfl, hb1⟩))
    go_ret
    exact ⟨rfl, hb1⟩
  · have T := hide ht
    have Hp := hide hpos
    clear ht hpos
    go_enter Try.func10, Try.ntmps10
    go_wp2_with (first
      | (go_at_call 40; refine (pick_total A n c _ l _ hr Hl.out hn Hw.out).mono ?_; rintro e w' ⟨rfl, rfl⟩; simp only [T.out])
      | (go_at_call 41; refine (ref_total A n c _ l _ hr Hl.out hn Hw.out).mono ?_; rintro e w' ⟨rfl, rfl⟩; simp only [T.out]))
    refine (pick_of A n c _ l x _ hr Hl.out hn Hw.out hx hx1 Hp.out T.out hs hs1).mono ?_; rintro e w' ⟨k, rfl, hk, rfl⟩
    have Hk := hide hk
    clear hk
    go_wp2_with fail
    refine (ref_of A n c _ l x _ hr Hl.out hn Hw.out hx hx1 Hp.out T.out hs hs1).mono ?_; rintro e w' ⟨k', rfl, hk', rfl⟩
    obtain rfl := Spot.one Hp.out Hk.out hk'
    clear hk'
    go_wp2_with (go_at_call 44; refine (pick_alive _).mono ?_; rintro e w1 ⟨rfl, hb1⟩)
    go_ret
    exact ⟨rfl, hb1⟩

set_option maxRecDepth 100000 in
theorem pickTells_lifted (os : Os) (started : os.Started) (H : Type) (enc : TypeId × Value → H) :
    ReturnsInHanded {} Try.checked os 10 .any (Rows.pickTellsSpec.pre6 enc Try.prog Try.f10 [] false) (Rows.pickTellsSpec.post enc Try.prog Try.f10 false true false false) := by
  refine law_lifted (C := Try.checked) Try.own started (by kernel_rfl) Try.func10
    (ChangeSpec.witness6 (enc := enc) (C := Try.checked) false ⟨#[], #[.int .u32 0, .slice none 0 0], []⟩ 8 (by kernel_rfl) (by kernel_rfl) (by kernel_rfl) (by kernel_rfl))
    Try.laidOut (show ∀ t ∈ [33, 61], Try.prog.readableRec t = true ∧ t < Try.prog.types.size from by
      intro t ht; simp only [List.mem_cons, List.not_mem_nil, or_false] at ht; rcases ht with rfl | rfl <;> exact ⟨by kernel_rfl, of_decide_eq_true (by kernel_rfl)⟩) (tb := 4) (by kernel_rfl) Try.underlying4 rfl (fun ds hd => ?_) ?_
  · match ds, hd with
    | [_, _], _ => rfl
  · intro W base args ds p hval hA
    have hval' : ∀ (j : Nat) t v, Try.f10.params[j]? = some t → args[j]? = some v → Value.okWide Try.prog W .any base t v := hval
    rw [Try.params10] at hA hval'
    obtain ⟨v0, v1, d0, d1, p0, p1, rfl, rfl, rfl, h0, h1⟩ := trodAll_two hA
    obtain ⟨x, rfl, w0⟩ := arg_int Try.underlying33 (hval' 0 _ _ rfl rfl) h0
    obtain ⟨A, n, c, l, rfl, hl, hc, _, hw, hr⟩ := arg_ints Try.underlying61 Try.underlying3 (by kernel_rfl) (hval' 1 _ _ rfl rfl) h1
    have b0 := bounds_u32 w0
    exact pickTells_walk A n c l x W hr hl hw b0.1 b0.2

theorem pickTells_holds : Rows.PickTellsSaid :=
  OpenClaim.holds_of_wide 10 Try.f10 rfl rfl rfl rfl rfl rfl rfl ⟨rfl, rfl, rfl, rfl, rfl⟩ rfl rfl rfl rfl rfl (by kernel_rfl) Try.func10 (by kernel_rfl)
    (of_decide_eq_true (by kernel_rfl)) (by unfold Func.isWrapper; first | (rw [if_pos (by decide +kernel)]; kernel_rfl) | (rw [if_neg (by decide +kernel)]; exact ⟨rfl, rfl⟩))
    (fun os started H enc _ => pickTells_lifted os started H enc)
#print axioms pickTells_holds
end Go.Proofs.Ytikdkljknbgphaa
