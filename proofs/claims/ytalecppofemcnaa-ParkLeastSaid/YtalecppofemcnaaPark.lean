/-
  The walks of place.Far, park.right and park.one.
-/
import Derived.Test.YtalecppofemcnaaProg
import Derived.Test.YtalecppofemcnaaOwn
import Derived.Test.YtalecppofemcnaaParkPlain
namespace Go.Proofs.Ytalecppofemcnaa
open Go.RowKit HB ParkP
set_option linter.unusedVariables false
set_option linter.unusedSimpArgs false
theorem place_far (i f : Int) (h1 : 0 ≤ i) (h2 : i ≤ 1000) (h3 : 0 ≤ f) (h4 : f ≤ 1000) (w : World) :
    Calls Try.prog 50 #[.int .i64 i, .int .i64 f] w fun e w' => e = .returned (.int .i64 (far i f)) ∧ w = w' := by
  go_enter Try.func50, Try.ntmps50
  go_wp2_with fail
  go_ret
  exact ⟨rfl, rfl⟩
theorem place_far_q (i f : Int) (h1 : 0 ≤ i) (h2 : i ≤ 1000) (h3 : 0 ≤ f) (h4 : f ≤ 1000) (w : World) :
    Calls Try.prog 50 #[.int .i64 i, .int .i64 f] w fun e w' => e = .returned (.int .i64 (far i f)) ∧ ∃ m, w' = w.drewN m :=
  (place_far i f h1 h2 h3 h4 w).mono fun e w' h => ⟨h.1, 0, h.2.symm⟩

set_option maxHeartbeats 1000000 in
theorem park_right (A : Option Addr) (n c B : Nat) (l : List Int) (w : World) (hr : Rd w B 1 A n (l.map (Value.int .i64))) (hl : l.length = n) (hn : n ≤ 9223372036854775807) :
    Calls Try.prog 47 #[.slice A n c] w fun e w' => e = .returned (.bool (okP l)) ∧ w = w' := by
  have Hl := hide hl
  clear hl
  go_enter Try.func47, Try.ntmps47
  go_wp2_with fail
  go_loop [7] (fun i => ∃ q : Nat, q ≤ n ∧ i = .int .i64 q ∧ ∀ x ∈ l.take q, 0 ≤ x ∧ x ≤ 1048576) (fun i => n - (intOf i).toNat)
  case atStart => exact ⟨0, Nat.zero_le _, rfl, by simp⟩
  case round =>
    obtain ⟨q, hq, rfl, hall⟩ := hrel
    have HA := hide hall
    clear hall
    by_cases hlt : q < n
    · obtain ⟨b, off, x, rfl, hb, hg, c0⟩ := hr.int_at Hl.out hlt
      have Hg := hide hg
      have hno : (x < 0 ∨ 1048576 < x) → okP l = false := fun h => okP_no (fun hh => by have := hh.2.2 x (List.mem_of_getElem? hg); omega)
      have HN := hide hno
      clear hno hg hr
      rcases (show x < 0 ∨ (0 ≤ x ∧ 1048576 < x) ∨ (0 ≤ x ∧ x ≤ 1048576) by omega) with h3 | ⟨h3, h4⟩ | ⟨h3, h4⟩
      · have hf := hide (HN.out (.inl h3))
        go_wp2_with fail
        go_ret
        exact ⟨ret_bool (by rw [hf.out]), rfl⟩
      · have hf := hide (HN.out (.inr h4))
        go_wp2_with fail
        go_ret
        exact ⟨ret_bool (by rw [hf.out]), rfl⟩
      · go_wp2_with fail
        go_round
        case rel =>
          refine ⟨q + 1, by omega, by go_num, ?_⟩
          rw [List.take_add_one, Hg.out]
          intro y hy
          rcases List.mem_append.1 hy with hy | hy
          · exact HA.out y hy
          · simp at hy; subst hy; exact ⟨h3, h4⟩
        case measure => simp [intOf]; omega
    · have hall := HA.out
      rw [List.take_of_length_le (by rw [Hl.out]; omega)] at hall
      rcases (show n = 0 ∨ (0 < n ∧ 128 < n) ∨ (0 < n ∧ n ≤ 128) by omega) with h | ⟨h, h'⟩ | ⟨h, h'⟩
      · subst h
        have hf := hide (okP_no (l := l) (fun hh => by have := Hl.out; omega))
        clear hall
        go_wp2_with fail
        go_ret
        exact ⟨ret_bool (by rw [hf.out]), rfl⟩
      · have hf := hide (okP_no (l := l) (fun hh => by have := Hl.out; omega))
        have z0 : decide (0 < n) = true := by simpa using h
        have z1 : decide (n ≤ 128) = false := by simp; omega
        clear hall
        go_wp2_with fail
        go_ret
        exact ⟨ret_bool (by rw [hf.out]; simp; omega), rfl⟩
      · have hf := hide (okP_mk (l := l) ⟨by rw [Hl.out]; exact h, by rw [Hl.out]; exact h', hall⟩)
        have z0 : decide (0 < n) = true := by simpa using h
        have z1 : decide (n ≤ 128) = true := by simpa using h'
        clear hall
        go_wp2_with fail
        go_ret
        exact ⟨ret_bool (by rw [hf.out]; simp; omega), rfl⟩

set_option maxRecDepth 100000 in
set_option maxHeartbeats 4000000 in
theorem park_one (A : Option Addr) (n c B : Nat) (l : List Int) (a b : Nat) (w : World) (hr : Rd w B 1 A n (l.map (Value.int .i64))) (hB : B ≤ w.heap.size) (hl : l.length = n) (hok : okP l = true) (hab : a ≤ b) (hbn : b ≤ n) :
    Calls Try.prog 49 #[.slice A n c, .agg #[.int .i64 a, .int .i64 b]] w fun e w' => e = .returned (.tuple #[.int .i64 (one l a b).1, .int .i64 (one l a b).2]) ∧ Below w.heap.size w w' := by
  have hn := (okP_yes hok).2.1
  rw [hl] at hn
  have Hl := hide hl
  have Hok := hide hok
  have HR := hide hr
  clear hl hok hr
  go_enter Try.func49, Try.ntmps49
  go_wp2_with fail
  go_loopw [6, 7, 8] (fun x y i wr => ∃ j : Nat, a + j ≤ b ∧ i = .int .i64 ((a + j : Nat) : Int) ∧ x = .int .i64 (og l a b j).1 ∧ y = .int .i64 (og l a b j).2 ∧ Below w.heap.size w wr ∧ wr.cell? ⟨w.heap.size, 0, none⟩ = some (.int .i64 a) ∧ wr.cell? ⟨w.heap.size, 1, none⟩ = some (.int .i64 b)) (fun _ _ i _ => b - (intOf i).toNat)
  case atStart => exact ⟨0, by omega, rfl, rfl, rfl, by go_grown, by simp [go_sem], by simp [go_sem]⟩
  case round =>
    obtain ⟨j, hj, rfl, rfl, rfl, hbel, k0, k1⟩ := hrel
    obtain ⟨W1, hW1⟩ : ∃ W1, W1 = wr := ⟨_, rfl⟩
    subst hW1
    have hz := hbel.size
    obtain ⟨f, hf⟩ : ∃ f, f = a + j := ⟨_, rfl⟩
    rw [← hf]
    have HFE := hide hf
    have HOGR := hide (og_range Hok.out a b (by omega) hab j hj)
    have HNX := hide (show og l a b (j + 1) = if (og l a b j).2 < 0 ∨ oc l a f (b - a) < (og l a b j).2 then (f, oc l a f (b - a)) else og l a b j by rw [hf]; rfl)
    have hfb : f ≤ b := by omega
    clear hf
    generalize hog : og l a b j = G at *
    by_cases hlt : f < b
    · have K0 := hide k0
      have K1 := hide k1
      go_wp2_with fail
      go_loopw [9, 10] (fun s i wr => ∃ k m : Nat, a + k ≤ b ∧ i = .int .i64 ((a + k : Nat) : Int) ∧ s = .int .i64 (oc l a f k) ∧ wr = W1.drewN m) (fun _ i _ => b - (intOf i).toNat)
      case atStart => exact ⟨0, 0, by omega, rfl, rfl, rfl⟩
      case round =>
        obtain ⟨k, m, hk, rfl, rfl, hw⟩ := hrel
        have HW := hide hw
        have hbw : Below w.heap.size w wr := by rw [hw]; exact below_drewN hbel m
        have k0' : wr.cell? ⟨w.heap.size, 0, none⟩ = some (.int .i64 a) := by rw [hw]; exact k0
        have k1' : wr.cell? ⟨w.heap.size, 1, none⟩ = some (.int .i64 b) := by rw [hw]; exact k1
        have K0' := hide k0'
        have K1' := hide k1'
        clear hw
        obtain ⟨i, hi⟩ : ∃ i, i = a + k := ⟨_, rfl⟩
        rw [← hi]
        have HI := hide hi
        have HOC := hide (oc_range Hok.out a f (by omega) k (by omega))
        have hib : i ≤ b := by omega
        by_cases hlt2 : i < b
        · obtain ⟨b1, off, x, rfl, hb1, hg, c0⟩ := (HR.out.below (hbw.mono hB)).int_at Hl.out (show i < n by omega)
          have hx := okP_wt Hok.out i
          rw [wt_get hg] at hx
          obtain ⟨x0, x1⟩ := hx
          have hfar0 : 0 ≤ far (i : Int) f := by unfold far; omega
          have hfar1 : far (i : Int) f ≤ 128 := by unfold far; omega
          obtain ⟨m0, m1⟩ := mul_in x0 x1 hfar0 hfar1
          have hE := hide (show oc l a f (k + 1) = oc l a f k + x * far (i : Int) f by simp only [oc]; rw [← hi, wt_get hg])
          have hFar := hide (fun (W : World) => place_far_q (i : Int) f (by omega) (by omega) (by omega) (by omega) W)
          have o0 := HOC.out.1
          have o1 : oc l a f k ≤ 17179869184 := by have := HOC.out.2; omega
          generalize far (i : Int) f = y at *
          generalize hxy : x * y = p at *
          generalize oc l a f k = s at *
          have e1 : IntKind.i64.wrap (x * y) = p := by rw [hxy]; exact IntWalk.i64_in _ (by omega)
          have e2 : IntKind.i64.wrap (s + p) = s + p := IntWalk.i64_in _ (by omega)
          have i0 : (0 : Int) ≤ (i : Int) := by omega
          have i1 : (i : Int) < (n : Int) := by omega
          clear hg hxy m0 m1 hi hfar0 hfar1
          go_wp2_with fail
          go_quiet ((go_at_call 50; exact Calls.quiet_of (v := .int .i64 y) (hFar.out _)))
          clear e1 e2 i0 i1
          go_wp2_with fail
          go_roundw
          case rel => exact ⟨k + 1, _, by have := HI.out; omega, congrArg _ (by have := HI.out; omega), by rw [hE.out], by rw [HW.out]; exact World.drewN_drewN _ _ _⟩
          case measure => have := HI.out; simp [intOf]; omega
        · obtain rfl : i = b := by omega
          have HE2 := hide (show oc l a f k = oc l a f (i - a) by rw [show i - a = k by have := HI.out; omega])
          rw [HE2.out]
          generalize oc l a f (i - a) = s at *
          obtain ⟨gf, gy⟩ := G
          simp only at HOGR HNX
          clear hi HOC
          rcases (show gy < 0 ∨ (0 ≤ gy ∧ s < gy) ∨ (0 ≤ gy ∧ gy ≤ s) by omega) with h1 | ⟨h1, h2⟩ | ⟨h1, h2⟩
          · have d1 : decide (gy < 0) = true := by simpa using h1
            have hE := hide (show og l a i (j + 1) = (f, s) by rw [HNX.out, if_pos (.inl h1)])
            clear HNX
            go_wp2_with fail
            go_roundw
            case rel => exact ⟨j + 1, by have := HFE.out; omega, congrArg _ (by have := HFE.out; omega), by rw [hE.out], by rw [hE.out], hbw, K0'.out, K1'.out⟩
            case measure => have := HFE.out; simp [intOf]; omega
          · have d1 : decide (gy < 0) = false := by simp; omega
            have d2 : decide (s < gy) = true := by simpa using h2
            have hE := hide (show og l a i (j + 1) = (f, s) by rw [HNX.out, if_pos (.inr h2)])
            clear HNX
            go_wp2_with fail
            go_roundw
            case rel => exact ⟨j + 1, by have := HFE.out; omega, congrArg _ (by have := HFE.out; omega), by rw [hE.out], by rw [hE.out], hbw, K0'.out, K1'.out⟩
            case measure => have := HFE.out; simp [intOf]; omega
          · have d1 : decide (gy < 0) = false := by simp; omega
            have d2 : decide (s < gy) = false := by simp; omega
            have hE := hide (show og l a i (j + 1) = (gf, gy) by rw [HNX.out, if_neg (by omega)])
            clear HNX
            go_wp2_with fail
            go_roundw
            case rel => exact ⟨j + 1, by have := HFE.out; omega, congrArg _ (by have := HFE.out; omega), by rw [hE.out], by rw [hE.out], hbw, K0'.out, K1'.out⟩
            case measure => have := HFE.out; simp [intOf]; omega
    · obtain rfl : f = b := by omega
      have hE := hide (show one l a f = G by unfold one; rw [show f - a = j by have := HFE.out; omega]; exact hog)
      clear hog
      go_wp2_with fail
      go_ret2
      rw [hE.out]
      exact ⟨rfl, hbel⟩
end Go.Proofs.Ytalecppofemcnaa
