/-
  slices.Equal at slices of integers: true just if the lists that they read as are equal; the world but for draws as it was.
-/
import Derived.Test.YtknmpfimnbenjaaProg
import Derived.Test.YtknmpfimnbenjaaBase
namespace Go.Proofs.Ytknmpfimnbenjaa
open Go.RowKit HB

set_option maxRecDepth 100000 in
set_option maxHeartbeats 1000000 in
theorem eqB (A A' : Option Addr) (n n' c c' B B' : Nat) (xs ys : List Int) (w : World) (hx : Rd w B 1 A n (xs.map (Value.int .u8))) (hy : Rd w B' 1 A' n' (ys.map (Value.int .u8))) (hn : n ≤ 1000000000) (hn' : n' ≤ 1000000000) :
    Calls Try.prog 13 #[.slice A n c, .slice A' n' c'] w fun e w' => e = .returned (.bool (decide (xs = ys))) ∧ ∃ m, w' = w.drewN m := by
  have lx : xs.length = n := by simpa using hx.1
  have ly : ys.length = n' := by simpa using hy.1
  by_cases hne : n = n'
  · subst hne
    have Lx := hide lx
    have Ly := hide ly
    clear lx ly
    have hneq : ((n : Int) != (n : Int)) = false := by simp
    go_enter Try.func13, Try.ntmps13
    go_wp2_with fail
    go_loopw [13] (fun i wr => ∃ k m : Nat, k ≤ n ∧ i = .int .i64 k ∧ xs.take k = ys.take k ∧ wr = w.drewN m) (fun i _ => n - (intOf i).toNat)
    case atStart => exact ⟨0, 0, Nat.zero_le _, rfl, rfl, rfl⟩
    case round =>
      obtain ⟨k, m, hk, rfl, htk, rfl⟩ := hrel
      have Htk := hide htk
      clear htk
      by_cases hlt : k < n
      · have gx : xs[k]? = some (xs[k]'(by rw [Lx.out]; exact hlt)) := List.getElem?_eq_getElem _
        have gy : ys[k]? = some (ys[k]'(by rw [Ly.out]; exact hlt)) := List.getElem?_eq_getElem _
        generalize (xs[k]'(by rw [Lx.out]; exact hlt)) = x at gx
        generalize (ys[k]'(by rw [Ly.out]; exact hlt)) = y at gy
        obtain ⟨b, off, rfl, hb, hc⟩ := hx.at_ (by omega)
        obtain ⟨b', off', rfl, hb', hc'⟩ := hy.at_ (by omega)
        have cx := hc k _ (show (xs.map (Value.int .u8))[k]? = some (.int .u8 x) by rw [List.getElem?_map, gx]; rfl)
        have cy := hc' k _ (show (ys.map (Value.int .u8))[k]? = some (.int .u8 y) by rw [List.getElem?_map, gy]; rfl)
        have Gx := hide gx
        have Gy := hide gy
        clear hc hc' gx gy hx hy
        have i0 : (0 : Int) ≤ (k : Int) := by omega
        have i1 : (k : Int) < (n : Int) := by omega
        by_cases hxy : x = y
        · subst hxy
          go_wp2_with fail
          go_quiet (fail)
          go_wp2_with fail
          go_roundw
          case rel => exact ⟨k + 1, _, by omega, by go_num, by rw [List.take_add_one, List.take_add_one, Htk.out, Gx.out, Gy.out], rfl⟩
          case measure => simp [intOf]; omega
        · have hb1 : (x != y) = true := by simpa using hxy
          have hd : decide (xs = ys) = false := by
            rw [decide_eq_false_iff_not]; intro h; rw [h, Gy.out] at Gx; exact hxy (Option.some.inj Gx.out).symm
          have Hd := hide hd
          clear hd hxy
          go_wp2_with fail
          go_quiet (fail)
          go_wp2_with fail
          go_ret
          rw [Hd.out]
          exact ⟨rfl, _, World.drewN_drewN _ _ _⟩
      · have hd : decide (xs = ys) = true := by
          have h := Htk.out
          rw [List.take_of_length_le (by rw [Lx.out]; omega), List.take_of_length_le (by rw [Ly.out]; omega)] at h
          simpa using h
        have Hd := hide hd
        clear hd
        go_wp2_with fail
        go_ret
        rw [Hd.out]
        exact ⟨rfl, m, rfl⟩
  · have hd : decide (xs = ys) = false := by
      rw [decide_eq_false_iff_not]; intro h; rw [h, ly] at lx; omega
    have hb1 : ((n : Int) != (n' : Int)) = true := by rw [bne_iff_ne]; omega
    have Hd := hide hd
    clear hd lx ly
    go_enter Try.func13, Try.ntmps13
    go_wp2_with fail
    go_ret
    rw [Hd.out]
    exact ⟨rfl, 0, rfl⟩
end Go.Proofs.Ytknmpfimnbenjaa
