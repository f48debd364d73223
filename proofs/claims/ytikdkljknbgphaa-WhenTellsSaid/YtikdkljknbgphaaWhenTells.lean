/-
  The law WhenTells holds: whatever the segments, the tick and the place, the call returns true and turns nothing. No condition.
-/
import Derived.Test.YtikdkljknbgphaaRows
import Derived.Test.YtikdkljknbgphaaFrame
import Derived.Test.YtikdkljknbgphaaWhen
namespace Go.Proofs.Ytikdkljknbgphaa
open Go.ChangeShapes Go.WideShapes Go.ChangeAt Go.RowKit HB WhenP

theorem when_cut (a b c : Int) (w : World) : Calls Try.prog 28 #[.int .i64 a, .int .i64 b, .int .i64 c] w fun e w' => e = .returned (.int .i64 (min (max a b) c)) ∧ w = w' := by
  go_enter Try.func28, Try.ntmps28
  go_wp2_with fail
  go_ret
  exact ⟨rfl, rfl⟩
/-- When the segment m begins, of the first k; 0 for others. -/
def When.strt (l : List Seg) (m : Int) (k : Nat) : Int := if 0 ≤ m ∧ m < k then upto l m.toNat else 0
theorem When.strt_yes (l : List Seg) (k : Nat) : When.strt l k (k + 1) = upto l k := by unfold When.strt; rw [if_pos (by omega)]; rfl
theorem When.strt_no (l : List Seg) (m : Int) (k : Nat) (h : ¬ (k : Int) = m) : When.strt l m (k + 1) = When.strt l m k := by
  unfold When.strt
  by_cases h1 : 0 ≤ m ∧ m < k
  · rw [if_pos h1, if_pos (by omega)]
  · rw [if_neg h1, if_neg (by omega)]
theorem When.at_yes {l : List Seg} {k : Nat} {tick : Int} (h1 : upto l k ≤ tick) (h2 : tick < upto l (k + 1)) : At l (k + 1) tick k true := .inl ⟨rfl, k, by omega, rfl, h1, h2⟩
theorem When.at_no {l : List Seg} {k : Nat} {tick a : Int} {f : Bool} (h : At l k tick a f) (h1 : ¬ (upto l k ≤ tick ∧ tick < upto l (k + 1))) : At l (k + 1) tick a f := by
  rcases h with ⟨rfl, i, hi, rfl, h2, h3⟩ | ⟨rfl, rfl, h2⟩
  · exact .inl ⟨rfl, i, by omega, rfl, h2, h3⟩
  · exact .inr ⟨rfl, rfl, by omega⟩
def When.Rel (l : List Seg) (tick m : Int) (w : World) (a f n s i : Value) (wr : World) : Prop :=
  ∃ (k : Nat) (a' : Int) (f' : Bool), k ≤ l.length ∧ i = .int .i64 k ∧ a = .int .i64 a' ∧ f = .bool f' ∧ n = .int .i64 (upto l k) ∧ s = .int .i64 (When.strt l m k) ∧ At l k tick a' f' ∧ Below w.heap.size w wr

set_option maxRecDepth 100000 in
set_option maxHeartbeats 4000000 in
theorem whenTells_walk (A : Option Addr) (n c : Nat) (l : List Seg) (tick m : Int) (w : World) (hr : Rd w w.heap.size 3 A n (l.flatMap When.seg)) (hl : l.length = n) (hc : n ≤ c)
    (ht0 : -9223372036854775808 ≤ tick) (ht1 : tick ≤ 9223372036854775807) :
    Calls Try.prog 6 #[.slice A n c, .int .i64 tick, .int .i64 m] w fun e w' => e = .returned (.bool true) ∧ Below w.heap.size w w' := by
  by_cases hbig : 30 < n
  · go_enter Try.func6, Try.ntmps6
    go_wp2_with fail
    go_ret
    exact ⟨rfl, Below.refl _ _⟩
  have hn : n ≤ 30 := by omega
  have hd : decide (30 < n) = false := by simp; omega
  clear hbig
  have Hl := hide hl
  clear hl
  go_enter Try.func6, Try.ntmps6
  go_wp2_with fail
  go_loopw [7, 8, 9, 10, 11] (fun a f s t i wr => When.Rel l tick m w a f s t i wr) (fun _ _ _ _ i _ => n - (intOf i).toNat)
  case atStart => exact ⟨0, 0, false, Nat.zero_le _, rfl, rfl, rfl, rfl, by unfold When.strt; rw [if_neg (by omega)], .inr ⟨rfl, rfl, by rw [upto_zero]; omega⟩, Below.refl _ _⟩
  case round =>
    obtain ⟨k, a', f', hk, rfl, rfl, rfl, rfl, rfl, hat, hbel⟩ := hrel
    rw [Hl.out] at hk
    have hz := hbel.size
    by_cases hlt : k < n
    · obtain ⟨b, off, g, rfl, hb, hg, c0, c1, c2⟩ := When.cells (hr.below hbel) Hl.out hlt
      have hu := upto_range l k
      rw [Hl.out] at hu
      have hG := hide (upto_succ hg)
      have ht := tk_range g
      have e : min (max g.2.1 0) 1048576 = tk g := rfl
      clear hg hr
      have hst : (((k : Int) == m) = true ∧ upto l k = When.strt l m (k + 1)) ∨ (((k : Int) == m) = false ∧ When.strt l m k = When.strt l m (k + 1)) := by
        by_cases hkm : (k : Int) = m
        · exact .inl ⟨by simpa using hkm, by rw [← hkm, When.strt_yes]⟩
        · exact .inr ⟨by simpa using hkm, (When.strt_no l m k hkm).symm⟩
      have E := hide e
      clear e
      by_cases hin : upto l k ≤ tick ∧ tick < upto l k + tk g
      · obtain ⟨i1, i2⟩ := hin
        rcases hst with ⟨hkm, hs⟩ | ⟨hkm, hs⟩
        all_goals
          have Hs := hide hs
          clear hs
          go_wp2_with (go_at_call 28; refine (when_cut _ _ _ _).mono ?_; rintro e w' ⟨rfl, rfl⟩; simp only [E.out])
          go_roundw
          case rel => exact ⟨k + 1, k, true, by rw [Hl.out]; omega, by go_num, rfl, rfl, by rw [hG.out], by rw [← Hs.out], When.at_yes i1 (by rw [hG.out]; exact i2), hbel⟩
          case measure => simp [intOf]; omega
      · have hin2 : tick < upto l k ∨ (upto l k ≤ tick ∧ upto l k + tk g ≤ tick) := by omega
        have hno := hide (When.at_no hat (by rw [hG.out]; exact hin))
        clear hin
        rcases hin2 with i1 | ⟨i1, i2⟩
        all_goals
          rcases hst with ⟨hkm, hs⟩ | ⟨hkm, hs⟩
          all_goals
            have Hs := hide hs
            clear hs
            go_wp2_with (go_at_call 28; refine (when_cut _ _ _ _).mono ?_; rintro e w' ⟨rfl, rfl⟩; simp only [E.out])
            go_roundw
            case rel => exact ⟨k + 1, a', f', by rw [Hl.out]; omega, by go_num, rfl, rfl, by rw [hG.out], by rw [← Hs.out], hno.out, hbel⟩
            case measure => simp [intOf]; omega
    · obtain rfl : k = n := by omega
      have hk' : upto l k = tot l := upto_all l k (by rw [Hl.out]; omega)
      have Hk := hide hk'
      clear hk'
      have Hat := hide hat
      clear hat hlt
      go_wp2_with fail
      refine (when_at A k c w.heap.size l tick _ (hr.below hbel) Hl.out hn hz ht0 ht1).mono ?_; rintro e w1 ⟨j, ok, rfl, hat', hb1⟩
      rw [Hl.out] at hat'
      obtain ⟨rfl, rfl⟩ := At.one hat' Hat.out
      clear hat'
      have hr1 := (hr.below hbel).below (hb1.mono hz)
      have hz1 : w.heap.size ≤ w1.heap.size := Nat.le_trans hz hb1.size
      go_wp2_with fail
      have hm : (m < 0 ∨ (k : Int) ≤ m) ∨ (0 ≤ m ∧ m < k) := by omega
      rcases hm with hm | ⟨hm0, hm1⟩
      · have hs0 : When.strt l m k = 0 := by unfold When.strt; rw [if_neg (by omega)]
        have hmb : decide (0 ≤ m) = false ∨ (decide (0 ≤ m) = true ∧ decide (m < (k : Int)) = false) := by
          by_cases h : 0 ≤ m
          · exact .inr ⟨by simpa using h, by simp; omega⟩
          · exact .inl (by simpa using h)
        refine (when_start_no A k c m _ hm).mono ?_; rintro e w2 ⟨rfl, hb2⟩
        clear hm
        have hr2 := hr1.below (hb2.mono hz1)
        have hz2 : w.heap.size ≤ w2.heap.size := Nat.le_trans hz1 hb2.size
        rcases hmb with hmb | ⟨hmb, hmb2⟩
        all_goals
          go_wp2_with (first
            | (go_at_call 31; refine (when_total A k c w.heap.size l _ hr2 Hl.out hn hz2).mono ?_; rintro e w3 ⟨rfl, hb3⟩; simp only [Hk.out])
            | (go_at_call 32; refine (when_alive _).mono ?_; rintro e w4 ⟨rfl, hb4⟩))
          go_ret
          exact ⟨rfl, then_ (then_ (then_ (then_ hbel hb1 (Nat.le_refl _)) hb2 (Nat.le_refl _)) hb3 (Nat.le_refl _)) hb4 (Nat.le_refl _)⟩
      · obtain ⟨q, rfl⟩ := Int.eq_ofNat_of_zero_le hm0
        have hs0 : When.strt l q k = upto l q := by unfold When.strt; rw [if_pos (by omega)]; rfl
        have hmb : decide ((0 : Int) ≤ q) = true := by simp
        have hmb2 : decide ((q : Int) < (k : Int)) = true := by simp; omega
        have hmb3 : decide (q < k) = true := by simp; omega
        refine (when_start A k c w.heap.size l q _ hr1 Hl.out hn hc hz1 (by omega)).mono ?_; rintro e w2 ⟨rfl, hb2⟩
        have hr2 := hr1.below (hb2.mono hz1)
        have hz2 : w.heap.size ≤ w2.heap.size := Nat.le_trans hz1 hb2.size
        go_wp2_with (first
          | (go_at_call 31; refine (when_total A k c w.heap.size l _ hr2 Hl.out hn hz2).mono ?_; rintro e w3 ⟨rfl, hb3⟩; simp only [Hk.out])
          | (go_at_call 32; refine (when_alive _).mono ?_; rintro e w4 ⟨rfl, hb4⟩))
        go_ret
        exact ⟨rfl, then_ (then_ (then_ (then_ hbel hb1 (Nat.le_refl _)) hb2 (Nat.le_refl _)) hb3 (Nat.le_refl _)) hb4 (Nat.le_refl _)⟩

set_option maxRecDepth 100000 in
theorem whenTells_lifted (os : Os) (started : os.Started) (H : Type) (enc : TypeId × Value → H) :
    ReturnsInHanded {} Try.checked os 6 .any (Rows.whenTellsSpec.pre6 enc Try.prog Try.f6 [] false) (Rows.whenTellsSpec.post enc Try.prog Try.f6 false true false false) := by
  refine law_lifted (C := Try.checked) Try.own started (by kernel_rfl) Try.func6
    (ChangeSpec.witness6 (enc := enc) (C := Try.checked) false ⟨#[], #[.slice none 0 0, .int .i64 0, .int .i64 0], []⟩ 8 (by kernel_rfl) (by kernel_rfl) (by kernel_rfl) (by kernel_rfl))
    Try.laidOut (show ∀ t ∈ [38, 3, 3], Try.prog.readableRec t = true ∧ t < Try.prog.types.size from by
      intro t ht; simp only [List.mem_cons, List.not_mem_nil, or_false] at ht; rcases ht with rfl | rfl | rfl <;> exact ⟨by kernel_rfl, of_decide_eq_true (by kernel_rfl)⟩) (tb := 4) (by kernel_rfl) Try.underlying4 rfl (fun ds hd => ?_) ?_
  · match ds, hd with
    | [_, _, _], _ => rfl
  · intro W base args ds p hval hA
    have hval' : ∀ (j : Nat) t v, Try.f6.params[j]? = some t → args[j]? = some v → Value.okWide Try.prog W .any base t v := hval
    rw [Try.params6] at hA hval'
    obtain ⟨v0, v1, v2, d0, d1, d2, p0, p1, p2, rfl, rfl, rfl, h0, h1, h2⟩ := trodAll_three hA
    obtain ⟨A, n, c, l, rfl, hl, hc, _, _, hr⟩ := arg_list (f := When.seg) (m := 3) (fun _ => rfl) (by omega) (ok := fun _ => True) Try.underlying38 (by kernel_rfl)
      (fun n cs' y hy => by
        obtain ⟨zs, rfl, hz, _⟩ := struct_ints Try.underlying42 (by kernel_rfl) (by kernel_rfl) (k := .i64) (by kernel_rfl) hy
        match zs, hz with
        | [a, b, c], _ => exact ⟨(a, b, c), rfl, trivial⟩) (hval' 0 _ _ rfl rfl) h0
    obtain ⟨a1, rfl, w1⟩ := arg_int Try.underlying3 (hval' 1 _ _ rfl rfl) h1
    obtain ⟨a2, rfl, w2⟩ := arg_int Try.underlying3 (hval' 2 _ _ rfl rfl) h2
    exact whenTells_walk A n c l a1 a2 W hr hl hc (bounds_i64 w1).1 (bounds_i64 w1).2

theorem whenTells_holds : Rows.WhenTellsSaid :=
  OpenClaim.holds_of_wide 6 Try.f6 rfl rfl rfl rfl rfl rfl rfl ⟨rfl, rfl, rfl, rfl, rfl⟩ rfl rfl rfl rfl rfl (by kernel_rfl) Try.func6 (by kernel_rfl)
    (of_decide_eq_true (by kernel_rfl)) (by unfold Func.isWrapper; first | (rw [if_pos (by decide +kernel)]; kernel_rfl) | (rw [if_neg (by decide +kernel)]; exact ⟨rfl, rfl⟩))
    (fun os started H enc _ => whenTells_lifted os started H enc)
#print axioms whenTells_holds
end Go.Proofs.Ytikdkljknbgphaa
