/-
  The law WhenTicks holds: whatever the segments, the call returns true and turns nothing. No condition.
-/
import Derived.Test.YtikdkljknbgphaaRows
import Derived.Test.YtikdkljknbgphaaFrame
import Derived.Test.YtikdkljknbgphaaWhen
namespace Go.Proofs.Ytikdkljknbgphaa
open Go.ChangeShapes Go.WideShapes Go.ChangeAt Go.RowKit HB WhenP

def When.Rel3 (l : List Seg) (w : World) (t : Value) (wr : World) : Prop := ∃ k : Nat, (k : Int) ≤ tot l ∧ t = .int .i64 k ∧ Below w.heap.size w wr
set_option maxRecDepth 100000 in
set_option maxHeartbeats 4000000 in
theorem whenTicks_walk (A : Option Addr) (n c : Nat) (l : List Seg) (w : World) (hr : Rd w w.heap.size 3 A n (l.flatMap When.seg)) (hl : l.length = n) (hc : n ≤ c) :
    Calls Try.prog 7 #[.slice A n c] w fun e w' => e = .returned (.bool true) ∧ Below w.heap.size w w' := by
  by_cases hbig : 10 < n
  · go_enter Try.func7, Try.ntmps7
    go_wp2_with fail
    go_ret
    exact ⟨rfl, Below.refl _ _⟩
  have hn0 : n ≤ 10 := by omega
  have hn : n ≤ 30 := by omega
  have hd : decide (10 < n) = false := by simp; omega
  clear hbig
  have hT := tot_range l
  rw [hl] at hT
  have Hl := hide hl
  clear hl
  go_enter Try.func7, Try.ntmps7
  go_wp2_with fail
  go_loop [3] (fun i => ∃ k : Nat, k ≤ n ∧ i = .int .i64 k) (fun i => n - (intOf i).toNat)
  case atStart => exact ⟨0, Nat.zero_le _, rfl⟩
  case round =>
    obtain ⟨k, hk, rfl⟩ := hrel
    by_cases hlt : k < n
    · obtain ⟨b, off, g, rfl, hb, hg, c0, c1, c2⟩ := When.cells hr Hl.out hlt
      clear hg hr
      by_cases h50 : 50 < g.2.1
      · go_wp2_with fail
        go_ret
        exact ⟨rfl, Below.refl _ _⟩
      · go_wp2_with fail
        go_round
        case rel => exact ⟨k + 1, by omega, by go_num⟩
        case measure => simp [intOf]; omega
    · obtain rfl : k = n := by omega
      clear hlt hk
      go_wp2_with fail
      go_loopw [4] (fun t wr => When.Rel3 l w t wr) (fun t _ => (tot l - intOf t).toNat)
      case atStart => exact ⟨0, by omega, rfl, Below.refl _ _⟩
      case round =>
        obtain ⟨t, ht, rfl, hbel⟩ := hrel
        have hz := hbel.size
        have hr0 := hr.below hbel
        go_wp2_with fail
        refine (when_total A k c w.heap.size l _ hr0 Hl.out hn hz).mono ?_; rintro e w1 ⟨rfl, hb1⟩
        have hr1 := hr0.below (hb1.mono hz)
        have hz1 : w.heap.size ≤ w1.heap.size := Nat.le_trans hz hb1.size
        by_cases hlt : (t : Int) < tot l
        · go_wp2_with fail
          refine (when_at A k c w.heap.size l t _ hr1 Hl.out hn hz1 (by omega) (by omega)).mono ?_; rintro e w2 ⟨j, ok, rfl, hat, hb2⟩
          have hr2 := hr1.below (hb2.mono hz1)
          have hz2 : w.heap.size ≤ w2.heap.size := Nat.le_trans hz1 hb2.size
          rw [Hl.out] at hat
          rcases hat with ⟨rfl, i, hi, rfl, h1, h2⟩ | ⟨rfl, rfl, h1⟩
          · go_wp2_with fail
            refine (when_start A k c w.heap.size l i _ hr2 Hl.out hn hc hz2 hi).mono ?_; rintro e w3 ⟨rfl, hb3⟩
            have hr3 := hr2.below (hb3.mono hz2)
            have hz3 : w.heap.size ≤ w3.heap.size := Nat.le_trans hz2 hb3.size
            by_cases hi2 : i + 1 < k
            · go_wp2_with fail
              rw [show ((i : Int) + 1) = ((i + 1 : Nat) : Int) from by omega]
              refine (when_start A k c w.heap.size l (i + 1) _ hr3 Hl.out hn hc hz3 hi2).mono ?_; rintro e w4 ⟨rfl, hb4⟩
              go_wp2_with fail
              go_roundw
              case rel => exact ⟨t + 1, by omega, by go_num, then_ (then_ (then_ (then_ hbel hb1 (Nat.le_refl _)) hb2 (Nat.le_refl _)) hb3 (Nat.le_refl _)) hb4 (Nat.le_refl _)⟩
              case measure => simp [intOf]; omega
            · go_wp2_with fail
              refine (when_start_no A k c _ _ (by omega)).mono ?_; rintro e w4 ⟨rfl, hb4⟩
              go_wp2_with fail
              go_roundw
              case rel => exact ⟨t + 1, by omega, by go_num, then_ (then_ (then_ (then_ hbel hb1 (Nat.le_refl _)) hb2 (Nat.le_refl _)) hb3 (Nat.le_refl _)) hb4 (Nat.le_refl _)⟩
              case measure => simp [intOf]; omega
          · rw [upto_all l k (by rw [Hl.out]; omega)] at h1
            omega
        · have hts : (t : Int) = tot l := by omega
          have Ht := hide hts
          clear hts
          go_wp2_with fail
          refine (when_total A k c w.heap.size l _ hr1 Hl.out hn hz1).mono ?_; rintro e w2 ⟨rfl, hb2⟩
          have hr2 := hr1.below (hb2.mono hz1)
          have hz2 : w.heap.size ≤ w2.heap.size := Nat.le_trans hz1 hb2.size
          go_wp2_with fail
          refine (when_at A k c w.heap.size l (tot l) _ hr2 Hl.out hn hz2 (by omega) (by omega)).mono ?_; rintro e w3 ⟨j, ok, rfl, hat, hb3⟩
          rw [Hl.out] at hat
          obtain ⟨rfl, rfl⟩ := At.one hat (.inr ⟨rfl, rfl, .inr (by rw [upto_all l k (by rw [Hl.out]; omega)]; omega)⟩)
          go_wp2_with fail
          refine (when_alive _).mono ?_; rintro e w4 ⟨rfl, hb4⟩
          go_wp2_with fail
          go_ret
          exact ⟨rfl, then_ (then_ (then_ (then_ hbel hb1 (Nat.le_refl _)) hb2 (Nat.le_refl _)) hb3 (Nat.le_refl _)) hb4 (Nat.le_refl _)⟩

set_option maxRecDepth 100000 in
theorem whenTicks_lifted (os : Os) (started : os.Started) (H : Type) (enc : TypeId × Value → H) :
    ReturnsInHanded {} Try.checked os 7 .any (Rows.whenTicksSpec.pre6 enc Try.prog Try.f7 [] false) (Rows.whenTicksSpec.post enc Try.prog Try.f7 false true false false) := by
  refine law_lifted (C := Try.checked) Try.own started (by kernel_rfl) Try.func7
    (ChangeSpec.witness6 (enc := enc) (C := Try.checked) false ⟨#[], #[.slice none 0 0], []⟩ 8 (by kernel_rfl) (by kernel_rfl) (by kernel_rfl) (by kernel_rfl))
    Try.laidOut (show ∀ t ∈ [38], Try.prog.readableRec t = true ∧ t < Try.prog.types.size from by
      intro t ht; simp only [List.mem_cons, List.not_mem_nil, or_false] at ht; subst ht <;> exact ⟨by kernel_rfl, of_decide_eq_true (by kernel_rfl)⟩) (tb := 4) (by kernel_rfl) Try.underlying4 rfl (fun ds hd => ?_) ?_
  · match ds, hd with
    | [_], _ => rfl
  · intro W base args ds p hval hA
    have hval' : ∀ (j : Nat) t v, Try.f7.params[j]? = some t → args[j]? = some v → Value.okWide Try.prog W .any base t v := hval
    rw [Try.params7] at hA hval'
    obtain ⟨v0, d0, rfl, rfl, h0⟩ := trodAll_one hA
    obtain ⟨A, n, c, l, rfl, hl, hc, _, _, hr⟩ := arg_list (f := When.seg) (m := 3) (fun _ => rfl) (by omega) (ok := fun _ => True) Try.underlying38 (by kernel_rfl)
      (fun n cs' y hy => by
        obtain ⟨zs, rfl, hz, _⟩ := struct_ints Try.underlying42 (by kernel_rfl) (by kernel_rfl) (k := .i64) (by kernel_rfl) hy
        match zs, hz with
        | [a, b, c], _ => exact ⟨(a, b, c), rfl, trivial⟩) (hval' 0 _ _ rfl rfl) h0
    exact whenTicks_walk A n c l W hr hl hc

theorem whenTicks_holds : Rows.WhenTicksSaid :=
  OpenClaim.holds_of_wide 7 Try.f7 rfl rfl rfl rfl rfl rfl rfl ⟨rfl, rfl, rfl, rfl, rfl⟩ rfl rfl rfl rfl rfl (by kernel_rfl) Try.func7 (by kernel_rfl)
    (of_decide_eq_true (by kernel_rfl)) (by unfold Func.isWrapper; first | (rw [if_pos (by decide +kernel)]; kernel_rfl) | (rw [if_neg (by decide +kernel)]; exact ⟨rfl, rfl⟩))
    (fun os started H enc _ => whenTicks_lifted os started H enc)
#print axioms whenTicks_holds
end Go.Proofs.Ytikdkljknbgphaa
