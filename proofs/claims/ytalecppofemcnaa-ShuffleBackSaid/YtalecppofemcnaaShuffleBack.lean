/-
  The law ShuffleBack holds: whatever the row, the call returns true and turns nothing. No condition.
-/
import Derived.Test.YtalecppofemcnaaRows
import Derived.Test.YtalecppofemcnaaFrame
import Derived.Test.YtalecppofemcnaaBackLaw
import Derived.Test.YtalecppofemcnaaHas
import Derived.Test.YtalecppofemcnaaShufAlive
namespace Go.Proofs.Ytalecppofemcnaa
open Go.ChangeShapes Go.WideShapes Go.ChangeAt Go.RowKit HB BackP
set_option linter.unusedVariables false
set_option linter.unusedSimpArgs false
theorem has_int_q (A : Option Addr) (n c B : Nat) (l : List Int) (x : Int) (w : World) (hr : Rd w B 1 A n (l.map (Value.int .i64))) (hl : l.length = n) (hn : n ≤ 1000000000) :
    Calls Try.prog 19 #[.slice A n c, .int .i64 x] w fun e w' => e = .returned (.bool (decide (x ∈ l))) ∧ ∃ m, w' = w.drewN m :=
  (has_int A n c B l x w hr hl hn).mono fun e w' h => ⟨h.1, 0, h.2.symm⟩
theorem Apart.step {l : List Int} {n k : Nat} {x : Int} (hx : l[k]? = some x) : Apart l n (k + 1) ↔ Apart l n k ∧ 0 ≤ x ∧ x < n ∧ x ∉ l.take k := by
  constructor
  · intro h
    have := h k x (by omega) hx
    exact ⟨fun j y hj hy => h j y (by omega) hy, this.1, this.2.1, (pos_mem k).1 this.2.2⟩
  · rintro ⟨h, a, b, c⟩
    exact h.next hx ⟨a, b, (pos_mem k).2 c⟩
set_option maxRecDepth 100000 in
set_option maxHeartbeats 8000000 in
theorem shuffleBack_small (A : Option Addr) (n c : Nat) (l : List Int) (w : World) (hr : Rd w w.heap.size 1 A n (l.map (Value.int .i64))) (hl : l.length = n) (hc : n ≤ c) (hn : n ≤ 300) :
    Calls Try.prog 4 #[.slice A n c] w fun e w' => e = .returned (.bool true) ∧ Below w.heap.size w w' := by
  have Hl := hide hl
  have HR := hide hr
  have d3 : decide (300 < n) = false := by simp; omega
  clear hl hr
  go_enter Try.func4, Try.ntmps4
  go_wp2_with fail
  go_loopw [3, 4] (fun s i wr => ∃ (k m : Nat) (b : Bool), k ≤ n ∧ i = .int .i64 k ∧ s = .bool b ∧ (b = true ↔ Apart l n k) ∧ wr = w.drewN m) (fun _ i _ => n - (intOf i).toNat)
  case atStart => exact ⟨0, 0, true, Nat.zero_le _, rfl, rfl, by simp [Apart], rfl⟩
  case round =>
    obtain ⟨k, m, b, hk, rfl, rfl, hb, hw⟩ := hrel
    have HB := hide hb
    have HW := hide hw
    have HR' := hide (show Rd wr w.heap.size 1 A n (l.map (Value.int .i64)) by rw [hw]; exact HR.out.drewN m)
    clear hb hw
    by_cases hlt : k < n
    · obtain ⟨b1, off, x, hA, hb1, hg, c0⟩ := HR'.out.int_at Hl.out hlt
      subst hA
      have HS := hide (Apart.step (n := n) hg)
      have HF := hide (HR'.out.front (show k ≤ n by omega))
      have i0 : (0 : Int) ≤ (k : Int) := by omega
      have i1 : (k : Int) < (n : Int) := by omega
      have i2 : (k : Int) ≤ (n : Int) := by omega
      clear hg
      cases b with
      | false =>
        have hno := hide (show ¬ Apart l n (k + 1) by rw [HS.out]; intro h; have := HB.out.2 h.1; cases this)
        go_wp2_with fail
        go_quiet (fail)
        go_wp2_with fail
        go_roundw
        case rel => exact ⟨k + 1, _, false, by omega, by go_num, rfl, by simp [hno.out], by rw [HW.out, World.drewN_drewN]⟩
        case measure => simp [intOf]; omega
      | true =>
        have HOK := hide (HB.out.1 rfl)
        rcases (show x < 0 ∨ (0 ≤ x ∧ (n : Int) ≤ x) ∨ (0 ≤ x ∧ x < (n : Int)) by omega) with h | ⟨h, h'⟩ | ⟨h, h'⟩
        · have hno := hide (show ¬ Apart l n (k + 1) by rw [HS.out]; intro h2; omega)
          have g1 : decide (0 ≤ x) = false := by simp; omega
          go_wp2_with fail
          go_quiet (fail)
          go_wp2_with fail
          go_roundw
          case rel => exact ⟨k + 1, _, false, by omega, by go_num, rfl, by simp [hno.out], by rw [HW.out, World.drewN_drewN]⟩
          case measure => simp [intOf]; omega
        · have hno := hide (show ¬ Apart l n (k + 1) by rw [HS.out]; intro h2; omega)
          have g1 : decide (0 ≤ x) = true := by simp; omega
          have g2 : decide (x < (n : Int)) = false := by simp; omega
          go_wp2_with fail
          go_quiet (fail)
          go_wp2_with fail
          go_roundw
          case rel => exact ⟨k + 1, _, false, by omega, by go_num, rfl, by simp [hno.out], by rw [HW.out, World.drewN_drewN]⟩
          case measure => simp [intOf]; omega
        · have g1 : decide (0 ≤ x) = true := by simp; omega
          have g2 : decide (x < (n : Int)) = true := by simp; omega
          have i3 : (k : Int) ≤ (c : Int) := by omega
          have i4 : k ≤ c := by omega
          have HFL := hide (show (l.take k).length = k by rw [List.length_take, Hl.out]; omega)
          have HF2 : Hid (Rd wr w.heap.size 1 (some ⟨b1, off, none⟩) k ((l.take k).map (Value.int .i64))) := hide (by have := HF.out; rwa [Nat.mul_one, ← List.map_take] at this)
          have hyes := hide (show ((!decide (x ∈ l.take k)) = true ↔ Apart l n (k + 1)) by rw [HS.out]; simp [HOK.out, h, h'])
          generalize hd : decide (x ∈ l.take k) = dd at hyes
          have HD := hide hd
          clear hd
          go_wp2_with fail
          go_quiet ((go_at_call 19; exact Calls.quiet_of (v := .bool dd) (by rw [← HD.out]; exact has_int_q _ k _ w.heap.size (l.take k) x _ (HF2.out.drewN _) HFL.out (by omega))))
          go_wp2_with fail
          go_roundw
          case rel => exact ⟨k + 1, _, !dd, by omega, by go_num, rfl, hyes.out, by rw [HW.out, World.drewN_drewN]⟩
          case measure => simp [intOf]; omega
    · obtain rfl : k = n := by omega
      have hbw : Below w.heap.size w wr := by rw [HW.out]; exact below_drewN (Below.refl _ _) m
      have hzw := hbw.size
      by_cases hA : Apart l k k
      · obtain rfl : b = true := HB.out.2 hA
        have HA := hide hA
        clear hA HW
        go_wp2_with fail
        refine (shuffle_back A k c w.heap.size l _ HR'.out hzw Hl.out hn).mono ?_; rintro e w1 ⟨hb1, ⟨hno, _⟩ | ⟨_, v, rfl, hown⟩⟩
        · exact absurd HA.out hno
        · have hown' := hown.ints
          rw [bk_length] at hown'
          obtain ⟨A1, c1, rfl, hc1, hrd1⟩ := hown'
          have HRB := hide hrd1
          have hbel := hbw.trans (hb1.mono hzw)
          have hz1 := hb1.size
          have HR1 := hide (HR'.out.below (hb1.mono hzw))
          clear hown hrd1 hb1 hbw HR'
          go_wp2_with fail
          go_loop [7] (fun i => ∃ q : Nat, q ≤ k ∧ i = .int .i64 q) (fun i => k - (intOf i).toNat)
          case atStart => exact ⟨0, Nat.zero_le _, rfl⟩
          case round =>
            obtain ⟨q, hq, rfl⟩ := hrel
            by_cases hlt2 : q < k
            · obtain ⟨b1, off, x, rfl, hb1, hg, c0⟩ := HR1.out.int_at Hl.out hlt2
              obtain ⟨x0, x1, -⟩ := HA.out q x hlt2 hg
              obtain ⟨p, rfl⟩ := Int.eq_ofNat_of_zero_le x0
              obtain ⟨b2, off2, y, rfl, hb2, hgy, cy⟩ := HRB.out.int_at (bk_length _ _ _) (show p < k by omega)
              have hy : y = (q : Int) := by have := bk_at HA.out hg hlt2; rw [hgy] at this; exact Option.some.inj this
              subst hy
              have hne : ((q : Int) != (q : Int)) = false := by simp
              clear hg hgy
              go_wp2_with fail
              go_round
              case rel => exact ⟨q + 1, by omega, by go_num⟩
              case measure => simp [intOf]; omega
            · have hlb : bk (bk l k k) k k = l := bk_bk Hl.out HA.out
              have HLB := hide hlb
              have HAB := hide (HA.out.back Hl.out)
              clear hlb
              go_wp2_with fail
              refine (shuffle_back A1 k c1 w1.heap.size (bk l k k) _ HRB.out (Nat.le_refl _) (bk_length _ _ _) hn).mono ?_; rintro e w2 ⟨hb2, ⟨hno, _⟩ | ⟨_, v, rfl, hown⟩⟩
              · exact absurd HAB.out hno
              · rw [HLB.out] at hown
                have hown' := hown.ints
                rw [Hl.out] at hown'
                obtain ⟨A2, c2, rfl, hc2, hrd2⟩ := hown'
                have HR2 := hide hrd2
                have HR3 := hide (HR1.out.below (hb2.mono (by omega)))
                have hbel2 := then_ hbel hb2 (Nat.le_refl _)
                clear hown hrd2 hbel
                go_wp2_with (first
                  | (go_at_call 17; refine (eqInt _ _ _ _ _ _ _ _ l l _ HR2.out HR3.out (by omega) (by omega)).mono ?_; rintro e w3 ⟨rfl, m, rfl⟩; simp only [decide_true])
                  | (go_at_call 14; refine (shuf_alive _).mono ?_; rintro e w9 ⟨rfl, hb9⟩))
                go_ret
                exact ⟨rfl, then_ (below_drewN hbel2 _) hb9 (Nat.le_refl _)⟩
      · obtain rfl : b = false := by
          cases b with
          | false => rfl
          | true => exact absurd (HB.out.1 rfl) hA
        have HA := hide hA
        clear hA HW
        go_wp2_with fail
        refine (shuffle_back A k c w.heap.size l _ HR'.out hzw Hl.out hn).mono ?_; rintro e w1 ⟨hb1, ⟨_, rfl⟩ | ⟨hy, _⟩⟩
        · have hbel := hbw.trans (hb1.mono hzw)
          clear hb1 hbw
          go_wp2_with (go_at_call 14; refine (shuf_alive _).mono ?_; rintro e w9 ⟨rfl, hb9⟩)
          go_ret
          exact ⟨rfl, then_ hbel hb9 (Nat.le_refl _)⟩
        · exact absurd hy HA.out
theorem shuffleBack_walk (A : Option Addr) (n c : Nat) (l : List Int) (w : World) (hr : Rd w w.heap.size 1 A n (l.map (Value.int .i64))) (hl : l.length = n) (hc : n ≤ c) :
    Calls Try.prog 4 #[.slice A n c] w fun e w' => e = .returned (.bool true) ∧ Below w.heap.size w w' := by
  by_cases hbig : 300 < n
  · go_enter Try.func4, Try.ntmps4
    go_wp2_with fail
    go_ret
    exact ⟨rfl, Below.refl _ _⟩
  · exact shuffleBack_small A n c l w hr hl hc (by omega)

set_option maxRecDepth 100000 in
theorem shuffleBack_lifted (os : Os) (started : os.Started) (H : Type) (enc : TypeId × Value → H) :
    ReturnsInHanded {} Try.checked os 4 .any (Rows.shuffleBackSpec.pre6 enc Try.prog Try.f4 [] false) (Rows.shuffleBackSpec.post enc Try.prog Try.f4 false true false false) := by
  refine law_lifted (C := Try.checked) Try.own started (by kernel_rfl) Try.func4
    (ChangeSpec.witness6 (enc := enc) (C := Try.checked) false ⟨#[], #[.slice none 0 0], []⟩ 8 (by kernel_rfl) (by kernel_rfl) (by kernel_rfl) (by kernel_rfl))
    Try.laidOut (show ∀ t ∈ [26], Try.prog.readableRec t = true ∧ t < Try.prog.types.size from by
      intro t ht; simp only [List.mem_cons, List.not_mem_nil, or_false] at ht; subst ht <;> exact ⟨by kernel_rfl, of_decide_eq_true (by kernel_rfl)⟩) (tb := 4) (by kernel_rfl) Try.underlying4 rfl (fun ds hd => ?_) ?_
  · match ds, hd with
    | [_], _ => rfl
  · intro W base args ds p hval hA
    have hval' : ∀ (j : Nat) t v, Try.f4.params[j]? = some t → args[j]? = some v → Value.okWide Try.prog W .any base t v := hval
    rw [Try.params4] at hA hval'
    obtain ⟨v0, d0, rfl, rfl, h0⟩ := trodAll_one hA
    obtain ⟨A, n, c, l, rfl, hl, hc, _, hw, hr⟩ := arg_ints Try.underlying26 Try.underlying3 (by kernel_rfl) (hval' 0 _ _ rfl rfl) h0
    exact shuffleBack_walk A n c l W hr hl hc

theorem shuffleBack_holds : Rows.ShuffleBackSaid :=
  OpenClaim.holds_of_wide 4 Try.f4 rfl rfl rfl rfl rfl rfl rfl ⟨rfl, rfl, rfl, rfl, rfl⟩ rfl rfl rfl rfl rfl (by kernel_rfl) Try.func4 (by kernel_rfl)
    (of_decide_eq_true (by kernel_rfl)) (by unfold Func.isWrapper; first | (rw [if_pos (by decide +kernel)]; kernel_rfl) | (rw [if_neg (by decide +kernel)]; exact ⟨rfl, rfl⟩))
    (fun os started H enc _ => shuffleBack_lifted os started H enc)
#print axioms shuffleBack_holds
end Go.Proofs.Ytalecppofemcnaa
