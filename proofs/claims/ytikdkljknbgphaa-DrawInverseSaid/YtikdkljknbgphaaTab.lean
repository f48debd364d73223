/-
  The walks of cumul.Right, of the document's Right and Means, and of draw.Of.
-/
import Derived.Test.YtikdkljknbgphaaProg
import Derived.Test.YtikdkljknbgphaaBase
import Derived.Test.YtikdkljknbgphaaTabPlain
import Derived.IntWalk
import Derived.Deep.QuietTactic
import Derived.BigQuiet
namespace Go.Proofs.Ytikdkljknbgphaa
open Go.RowKit HB TabP
set_option linter.unusedVariables false
set_option linter.unusedSimpArgs false

set_option maxRecDepth 100000 in
set_option maxHeartbeats 2000000 in
theorem cumul_right (A : Option Addr) (n c B : Nat) (l : List Int) (w : World) (hr : Rd w B 1 A n (l.map (Value.int .u64))) (hl : l.length = n) (hn : n ≤ 200) :
    Calls Try.prog 58 #[.slice A n c] w fun e w' => e = .returned (.bool (right l)) ∧ w = w' := by
  have Hl := hide hl
  clear hl
  go_enter Try.func58, Try.ntmps58
  go_wp2_with fail
  go_loop [7] (fun i => ∃ k : Nat, (k ≤ n ∨ k = 0) ∧ 0 ≤ k ∧ i = .int .i64 k ∧ ∀ (i : Nat) (a b : Int), i + 1 < k → l[i]? = some a → l[i + 1]? = some b → a ≤ b) (fun i => n - (intOf i).toNat)
  case atStart => exact ⟨0, .inr rfl, Nat.le_refl _, rfl, fun i a b hi => by omega⟩
  case round =>
    obtain ⟨k, hk, hk1, rfl, hpos⟩ := hrel
    have Hp := hide hpos
    clear hpos
    by_cases hlt : k < n
    · obtain ⟨b, off, x, rfl, hb, hg, c0⟩ := hr.int_at Hl.out hlt
      have G := hide hg
      clear hg
      by_cases h0 : k = 0
      · have dk : decide ((0 : Int) < (k : Int)) = false := by simp; omega
        have dk2 : decide (0 < k) = false := by simp; omega
        have hk1' : k + 1 ≤ 1 := by omega
        clear hr hk h0
        go_wp2_with fail
        go_round
        case rel => exact ⟨k + 1, .inl (by omega), by omega, by go_num, fun i a b hi => by omega⟩
        case measure => simp [intOf]; omega
      · obtain ⟨b', off', y, hA, hb', hg', c1⟩ := hr.int_at Hl.out (show k - 1 < n by omega)
        simp only [Option.some.injEq, Addr.mk.injEq, and_true] at hA
        obtain ⟨rfl, rfl⟩ := hA
        have G' := hide hg'
        clear hg' hr hk
        have i0 : (0 : Int) ≤ (k : Int) - 1 := by omega
        have i1 : (k : Int) - 1 < (n : Int) := by omega
        have i2 : ((k : Int) - 1).toNat = k - 1 := by omega
        have hkk : k - 1 + 1 = k := by omega
        by_cases hxy : x < y
        · have ht := hide (right_fall G'.out (by rw [hkk]; exact G.out) hxy)
          go_wp2_with fail
          go_ret
          exact ⟨ret_bool ht.out.symm, rfl⟩
        · go_wp2_with fail
          go_round
          case rel =>
            refine ⟨k + 1, .inl (by omega), by omega, by go_num, fun i a b hi ha hb => ?_⟩
            rcases Nat.lt_or_ge (i + 1) k with h | h
            · exact Hp.out i a b h ha hb
            · obtain rfl : i = k - 1 := by omega
              rw [G'.out] at ha
              rw [hkk, G.out] at hb
              obtain rfl := Option.some.inj ha
              obtain rfl := Option.some.inj hb
              omega
          case measure => simp [intOf]; omega
    · have hri : Rises l := fun i a b ha hb => Hp.out i a b (by have := (List.getElem?_eq_some_iff.1 hb).1; rw [Hl.out] at this; omega) ha hb
      by_cases h0 : n = 0
      · have hln : l = [] := List.length_eq_zero_iff.1 (by rw [Hl.out, h0])
        have ht := hide (show right l = false by rw [hln]; exact right_none)
        have dn : decide ((0 : Int) < (n : Int)) = false := by simp; omega
        have dn2 : decide (0 < n) = false := by simp; omega
        clear hln hri h0 hr
        go_wp2_with fail
        go_ret
        exact ⟨ret_bool ht.out.symm, rfl⟩
      · obtain ⟨b, off, x, rfl, hb, hg, c0⟩ := hr.int_at Hl.out (show n - 1 < n by omega)
        have ht := hide (right_last (x := x) hri (by rw [Hl.out]; exact hg))
        have i0 : (0 : Int) ≤ (n : Int) - 1 := by omega
        have i1 : (n : Int) - 1 < (n : Int) := by omega
        have i2 : ((n : Int) - 1).toNat = n - 1 := by omega
        have dn : decide ((0 : Int) < (n : Int)) = true := by simp; omega
        have dn2 : decide (0 < n) = true := by simp; omega
        clear hg hri hr hk
        go_wp2_with fail
        go_ret
        exact ⟨ret_bool ht.out.symm, rfl⟩

set_option maxRecDepth 100000 in
set_option maxHeartbeats 2000000 in
theorem ref_right (A : Option Addr) (n c B : Nat) (l : List Int) (w : World) (hr : Rd w B 1 A n (l.map (Value.int .u64))) (hl : l.length = n) (hn : n ≤ 200) :
    Calls Try.prog 38 #[.slice A n c] w fun e w' => e = .returned (.bool (right l)) ∧ ∃ m, w' = w.drewN m := by
  have Hl := hide hl
  clear hl
  go_enter Try.func38, Try.ntmps38
  go_wp2_with fail
  go_loopw [3] (fun i wr => ∃ k m : Nat, (k ≤ n ∨ k = 1) ∧ 1 ≤ k ∧ i = .int .i64 k ∧ (∀ (i : Nat) (a b : Int), i + 1 < k → l[i]? = some a → l[i + 1]? = some b → a ≤ b) ∧ wr = w.drewN m) (fun i _ => n - (intOf i).toNat)
  case atStart => exact ⟨1, 0, .inr rfl, Nat.le_refl _, rfl, fun i a b hi => by omega, rfl⟩
  case round =>
    obtain ⟨k, m, hk, hk1, rfl, hpos, rfl⟩ := hrel
    have Hp := hide hpos
    clear hpos
    by_cases hlt : k < n
    · obtain ⟨b, off, x, rfl, hb, hg, c0⟩ := hr.int_at Hl.out hlt
      have G := hide hg
      clear hg
      obtain ⟨b', off', y, hA, hb', hg', c1⟩ := hr.int_at Hl.out (show k - 1 < n by omega)
      simp only [Option.some.injEq, Addr.mk.injEq, and_true] at hA
      obtain ⟨rfl, rfl⟩ := hA
      have G' := hide hg'
      clear hg' hr hk
      have i0 : (0 : Int) ≤ (k : Int) - 1 := by omega
      have i1 : (k : Int) - 1 < (n : Int) := by omega
      have i2 : ((k : Int) - 1).toNat = k - 1 := by omega
      have j0 : (0 : Int) ≤ (k : Int) := by omega
      have j1 : (k : Int) < (n : Int) := by omega
      have hkk : k - 1 + 1 = k := by omega
      by_cases hxy : x < y
      · have ht := hide (right_fall G'.out (by rw [hkk]; exact G.out) hxy)
        have iw : IntKind.i64.wrap ((k : Int) - 1) = (k : Int) - 1 := IntWalk.i64_in _ (by omega)
        go_wp2_with fail
        go_quiet (fail)
        clear iw
        go_wp2_with fail
        go_ret
        exact ⟨ret_bool ht.out.symm, _, World.drewN_drewN _ _ _⟩
      · have iw : IntKind.i64.wrap ((k : Int) - 1) = (k : Int) - 1 := IntWalk.i64_in _ (by omega)
        go_wp2_with fail
        go_quiet (fail)
        clear iw
        go_wp2_with fail
        go_roundw
        case rel =>
          refine ⟨k + 1, _, .inl (by omega), by omega, by go_num, fun i a b hi ha hb => ?_, rfl⟩
          rcases Nat.lt_or_ge (i + 1) k with h | h
          · exact Hp.out i a b h ha hb
          · obtain rfl : i = k - 1 := by omega
            rw [G'.out] at ha
            rw [hkk, G.out] at hb
            obtain rfl := Option.some.inj ha
            obtain rfl := Option.some.inj hb
            omega
        case measure => simp [intOf]; omega
    · have hri : Rises l := fun i a b ha hb => Hp.out i a b (by have := (List.getElem?_eq_some_iff.1 hb).1; rw [Hl.out] at this; omega) ha hb
      by_cases h0 : n = 0
      · have hln : l = [] := List.length_eq_zero_iff.1 (by rw [Hl.out, h0])
        have ht := hide (show right l = false by rw [hln]; exact right_none)
        have dn : decide ((0 : Int) < (n : Int)) = false := by simp; omega
        have dn2 : decide (0 < n) = false := by simp; omega
        clear hln hri h0 hr
        go_wp2_with fail
        go_ret
        exact ⟨ret_bool ht.out.symm, m, rfl⟩
      · obtain ⟨b, off, x, rfl, hb, hg, c0⟩ := hr.int_at Hl.out (show n - 1 < n by omega)
        have ht := hide (right_last (x := x) hri (by rw [Hl.out]; exact hg))
        have i0 : (0 : Int) ≤ (n : Int) - 1 := by omega
        have i1 : (n : Int) - 1 < (n : Int) := by omega
        have i2 : ((n : Int) - 1).toNat = n - 1 := by omega
        have dn : decide ((0 : Int) < (n : Int)) = true := by simp; omega
        have dn2 : decide (0 < n) = true := by simp; omega
        clear hg hri hr hk
        go_wp2_with fail
        go_ret
        exact ⟨ret_bool ht.out.symm, m, rfl⟩

def Tab.OfPost (l : List Int) (x : Int) (w : World) (e : Ending) (w' : World) : Prop := ∃ k : Nat, e = .returned (.int .i64 k) ∧ First l x k ∧ w = w'
set_option maxRecDepth 100000 in
set_option maxHeartbeats 2000000 in
theorem ref_means (A : Option Addr) (n c B : Nat) (l : List Int) (w : World) (hr : Rd w B 1 A n (l.map (Value.int .u64))) (hl : l.length = n) (hn : n ≤ 200) (x : Int) (hx : 0 ≤ x) (hx1 : x ≤ 4294967295) :
    Calls Try.prog 39 #[.slice A n c, .int .u32 x] w (Tab.OfPost l x w) := by
  have Hl := hide hl
  clear hl
  go_enter Try.func39, Try.ntmps39
  go_wp2_with fail
  go_loop [5] (fun i => ∃ k : Nat, k ≤ n ∧ i = .int .i64 k ∧ ∀ (i : Nat) (a : Int), i < k → l[i]? = some a → a ≤ x) (fun i => n - (intOf i).toNat)
  case atStart => exact ⟨0, Nat.zero_le _, rfl, fun i a hi => by omega⟩
  case round =>
    obtain ⟨k, hk, rfl, hpos⟩ := hrel
    have Hp := hide hpos
    clear hpos
    by_cases hlt : k < n
    · obtain ⟨b, off, y, rfl, hb, hg, c0⟩ := hr.int_at Hl.out hlt
      have G := hide hg
      clear hg hr
      by_cases hxy : y ≤ x
      · go_wp2_with fail
        go_round
        case rel =>
          refine ⟨k + 1, by omega, by go_num, fun i a hi ha => ?_⟩
          rcases Nat.lt_or_ge i k with h | h
          · exact Hp.out i a h ha
          · obtain rfl : i = k := by omega
            rw [G.out] at ha
            obtain rfl := Option.some.inj ha
            exact hxy
        case measure => simp [intOf]; omega
      · go_wp2_with fail
        go_ret
        exact ⟨k, rfl, ⟨by rw [Hl.out]; exact hk, Hp.out, fun _ => ⟨y, G.out, by omega⟩⟩, rfl⟩
    · go_wp2_with fail
      go_ret
      exact ⟨k, rfl, ⟨by rw [Hl.out]; exact hk, Hp.out, fun h => by rw [Hl.out] at h; omega⟩, rfl⟩

set_option maxRecDepth 100000 in
set_option maxHeartbeats 2000000 in
theorem draw_of (A : Option Addr) (n c B : Nat) (l : List Int) (w : World) (hr : Rd w B 1 A n (l.map (Value.int .u64))) (hl : l.length = n) (hn : n ≤ 200) (hri : Rises l) (x : Int) (hx : 0 ≤ x) (hx1 : x ≤ 4294967295) :
    Calls Try.prog 34 #[.slice A n c, .int .u32 x] w (Tab.OfPost l x w) := by
  have Hl := hide hl
  have Hri := hide hri
  clear hl hri
  go_enter Try.func34, Try.ntmps34
  go_wp2_with fail
  go_loop [5, 6] (fun i j => ∃ p q : Nat, p ≤ q ∧ q ≤ n ∧ i = .int .i64 p ∧ j = .int .i64 q ∧ (∀ (i : Nat) (a : Int), i < p → l[i]? = some a → a ≤ x) ∧ (q < n → ∃ a, l[q]? = some a ∧ x < a)) (fun i j => (intOf j).toNat - (intOf i).toNat)
  case atStart => exact ⟨0, n, Nat.zero_le _, Nat.le_refl _, rfl, rfl, fun i a hi => by omega, fun h => by omega⟩
  case round =>
    obtain ⟨p, q, hpq, hq, rfl, rfl, h1, h2⟩ := hrel
    have H1 := hide h1
    have H2 := hide h2
    clear h1 h2
    by_cases hlt : p < q
    · obtain ⟨b, off, y, rfl, hb, hg, c0⟩ := hr.int_at Hl.out (show (p + q) / 2 < n by omega)
      have G := hide hg
      clear hg hr
      have hsum : ((p : Int) + (q : Int)) % 18446744073709551616 = (p : Int) + (q : Int) := by omega
      have hm0 : (((p : Int) + (q : Int)) / 2) = (((p + q) / 2 : Nat) : Int) := by omega
      generalize hm : (p + q) / 2 = m at *
      have hmp : p ≤ m := by omega
      have hmq : m < q := by omega
      clear hm
      by_cases hxy : x < y
      · go_wp2_with fail
        go_round
        case rel =>
          exact ⟨p, m, hmp, by omega, rfl, by go_num, H1.out, fun _ => ⟨y, G.out, hxy⟩⟩
        case measure => simp [intOf]; omega
      · go_wp2_with fail
        go_round
        case rel =>
          refine ⟨m + 1, q, by omega, hq, by go_num, rfl, fun i a hi ha => ?_, H2.out⟩
          have := Hri.out.le (show i ≤ m by omega) ha G.out
          omega
        case measure => simp [intOf]; omega
    · obtain rfl : p = q := by omega
      go_wp2_with fail
      go_ret
      exact ⟨p, rfl, ⟨by rw [Hl.out]; exact hq, H1.out, fun h => H2.out (by rw [Hl.out] at h; exact h)⟩, rfl⟩

theorem draw_of_at (A : Option Addr) (n c B : Nat) (l : List Int) (w : World) (hr : Rd w B 1 A n (l.map (Value.int .u64))) (hl : l.length = n) (hn : n ≤ 200) (hri : Rises l) (x : Int) (hx : 0 ≤ x) (hx1 : x ≤ 4294967295) (j : Nat) (hj : First l x j) :
    Calls Try.prog 34 #[.slice A n c, .int .u32 x] w fun e w' => e = .returned (.int .i64 j) ∧ w = w' := by
  refine (draw_of A n c B l w hr hl hn hri x hx hx1).mono ?_
  rintro e w' ⟨k, rfl, hk, rfl⟩
  obtain rfl := hj.one hk
  exact ⟨rfl, rfl⟩
theorem ref_means_at (A : Option Addr) (n c B : Nat) (l : List Int) (w : World) (hr : Rd w B 1 A n (l.map (Value.int .u64))) (hl : l.length = n) (hn : n ≤ 200) (x : Int) (hx : 0 ≤ x) (hx1 : x ≤ 4294967295) (j : Nat) (hj : First l x j) :
    Calls Try.prog 39 #[.slice A n c, .int .u32 x] w fun e w' => e = .returned (.int .i64 j) ∧ w = w' := by
  refine (ref_means A n c B l w hr hl hn x hx hx1).mono ?_
  rintro e w' ⟨k, rfl, hk, rfl⟩
  obtain rfl := hj.one hk
  exact ⟨rfl, rfl⟩
theorem tab_ten : Rises [10, 20] := by
  intro i a b ha hb
  match i, ha, hb with
  | 0, ha, hb => simp at ha hb; omega
  | 1, ha, hb => simp at hb
  | i + 2, ha, hb => simp at ha
theorem tab_f1 : First [10, 20] 10 1 := by
  refine ⟨by decide, fun i a hi ha => ?_, fun _ => ⟨20, rfl, by decide⟩⟩
  obtain rfl : i = 0 := by omega
  simp at ha; omega
theorem tab_f2 : First [10, 20] 20 2 := by
  refine ⟨by decide, fun i a hi ha => ?_, fun h => absurd h (by decide)⟩
  match i, hi, ha with
  | 0, _, ha => simp at ha; omega
  | 1, _, ha => simp at ha; omega
set_option maxHeartbeats 1000000 in
theorem draw_alive (w : World) : Calls Try.prog 36 #[] w fun e w' => e = .returned (.bool true) ∧ Below w.heap.size w w' := by
  have hri := hide tab_ten
  have F1 := hide tab_f1
  have hr2 : Hid (Rd ((w.alloc (.cells #[.int .u64 10, .int .u64 20] 22)).alloc (.cells #[.int .u64 10, .int .u64 20] 22)) (w.heap.size + 2) 1 (some ⟨w.heap.size + 1, 0, none⟩) 2 ([(10 : Int), 20].map (Value.int .u64))) := hide (by
    have := Rd.new (w.alloc (.cells #[.int .u64 10, .int .u64 20] 22)) 22 (xs := [.int .u64 10, .int .u64 20]) (n := 2) (sz := 1) rfl
    simpa using this)
  have F2 := hide tab_f2
  go_enter Try.func36, Try.ntmps36
  go_wp2_with fail
  refine (draw_of _ 2 2 _ [10, 20] _ (Rd.new w _ (xs := [.int .u64 10, .int .u64 20]) rfl) rfl (by omega) hri.out 10 (by omega) (by omega)).mono ?_; rintro e w1 ⟨k, rfl, hf, rfl⟩
  obtain rfl := F1.out.one hf
  clear hf
  go_wp2_with fail
  refine (draw_of _ 2 2 _ [10, 20] _ hr2.out rfl (by omega) hri.out 20 (by omega) (by omega)).mono ?_; rintro e w1 ⟨k, rfl, hf, rfl⟩
  obtain rfl := F2.out.one hf
  clear hf
  go_wp2_with fail
  go_ret
  exact ⟨rfl, by go_grown⟩
end Go.Proofs.Ytikdkljknbgphaa
