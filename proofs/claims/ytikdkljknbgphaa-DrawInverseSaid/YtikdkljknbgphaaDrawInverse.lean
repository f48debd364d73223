/-
  The law DrawInverse holds: whatever the rate and the word, the call returns true and turns nothing. No condition.
-/
import Derived.Test.YtikdkljknbgphaaRows
import Derived.Test.YtikdkljknbgphaaFrame
import Derived.Test.YtikdkljknbgphaaSpan
namespace Go.Proofs.Ytikdkljknbgphaa
open Go.ChangeShapes Go.WideShapes Go.ChangeAt Go.RowKit HB TabP CumP
set_option linter.unusedVariables false
set_option linter.unusedSimpArgs false

theorem list_get {l : List Int} {n i : Nat} (hl : l.length = n) (hi : i < n) : ∃ x, l[i]? = some x := ⟨l[i]'(by omega), List.getElem?_eq_getElem _⟩
set_option maxRecDepth 100000 in
set_option maxHeartbeats 4000000 in
theorem drawInverse_walk (rate x : Int) (hx0 : 0 ≤ x) (hx1 : x ≤ 4294967295) (w : World) :
    Calls Try.prog 8 #[.int .i64 rate, .int .u32 x] w fun e w' => e = .returned (.bool true) ∧ Below w.heap.size w w' := by
  by_cases hno : rate < 0 ∨ 4000 < rate
  · have hor : rate < 0 ∨ (0 ≤ rate ∧ 4000 < rate) := by omega
    clear hno
    go_enter Try.func8, Try.ntmps8
    rcases hor with h | ⟨h, h'⟩
    all_goals
      go_wp2_with fail
      go_ret
      exact ⟨rfl, Below.refl _ _⟩
  have h0 : 0 ≤ rate := by omega
  have h1 : rate ≤ 4000 := by omega
  clear hno
  have r0 : decide (rate < 0) = false := by simp; omega
  have r1 : decide (4000 < rate) = false := by simp; omega
  go_enter Try.func8, Try.ntmps8
  go_wp2_with fail
  refine (ref_table rate h0 h1 _).mono ?_; rintro e w1 ⟨v, m, rfl, hm, hown, hb1⟩
  have m1 := hm.1
  have m64 := hm.2.1
  obtain ⟨A, c, rfl, hc, hrd⟩ := hown.ints
  rw [tb_length] at hc hrd
  simp only [tb_length]
  have HC := hide (fun (i : Nat) (a : Int) (ha : (tb rate m m)[i]? = some a) => (show 0 ≤ a ∧ a ≤ 4294967296 by obtain ⟨rfl, hi⟩ := tb_get ha; exact cell_range h0 h1 hi m64))
  have HRI := hide (tb_rises h0 m m1)
  have HLA := hide (tb_last h0 m m1)
  have HL := hide (tb_length rate m m)
  generalize tb rate m m = l at *
  have HR := hide hrd
  clear hown hrd hm
  obtain ⟨k, hk⟩ := First.ex l x
  have HK := hide hk
  have hkm : k < m := by
    rcases Nat.lt_or_ge k m with h | h
    · exact h
    · have := hk.2.1 (m - 1) _ (by omega) HLA.out; omega
  clear hk
  go_wp2_with fail
  refine (draw_of_at A m c _ l _ HR.out HL.out (by omega) HRI.out x hx0 hx1 k HK.out).mono ?_; rintro e w' ⟨rfl, rfl⟩
  have dk0 : decide ((k : Int) < 0) = false := by simp
  have dk1 : decide (m ≤ k) = false := by simp; omega
  have dk2 : decide ((m : Int) ≤ (k : Int)) = false := by simp; omega
  go_wp2_with fail
  go_loopw [7] (fun i wr => ∃ q : Nat, q ≤ m ∧ i = .int .i64 q ∧ Rd wr w1.heap.size 1 A m (l.map (Value.int .u64)) ∧ Below w.heap.size w wr) (fun i _ => m - (intOf i).toNat)
  case atStart => exact ⟨0, Nat.zero_le _, rfl, HR.out, hb1⟩
  case round =>
    clear HR hb1
    obtain ⟨i, hi, rfl, hr, hbel⟩ := hrel
    have HR := hide hr
    clear hr
    by_cases hlt : i < m
    · obtain ⟨y, hy⟩ := list_get HL.out hlt
      have hyr := HC.out i y hy
      have hy0 := hyr.1
      have hy1 := hyr.2
      have HY := hide hy
      clear hyr
      by_cases hz : i = 0
      · subst hz
        have hiff : Hid (x < y ↔ 0 = k) := hide ⟨fun h => first_spot HRI.out HK.out hy (.inl rfl) h, fun h => by subst h; exact first_lt HK.out hy⟩
        clear hy
        go_wp2_with fail
        refine (draw_span_zero A m c _ l _ HR.out HL.out (by omega) y HY.out).mono ?_; rintro e w' ⟨rfl, rfl⟩
        by_cases hxy : x < y
        · have hk0 : ((0 : Int) == (k : Int)) = true := by rw [beq_iff_eq]; have := hiff.out.1 hxy; omega
          have hk1 : (0 == k) = true := by rw [beq_iff_eq]; exact hiff.out.1 hxy
          go_wp2_with fail
          go_roundw
          case rel => exact ⟨0 + 1, by omega, by go_num, HR.out, hbel⟩
          case measure => simp [intOf]; omega
        · have hk0 : ((0 : Int) == (k : Int)) = false := by rw [beq_eq_false_iff_ne]; intro h; exact hxy (hiff.out.2 (by omega))
          go_wp2_with fail
          go_roundw
          case rel => exact ⟨0 + 1, by omega, by go_num, HR.out, hbel⟩
          case measure => simp [intOf]; omega
      · obtain ⟨p, hp⟩ := list_get HL.out (show i - 1 < m by omega)
        have hpr := HC.out _ p hp
        have hp0 := hpr.1
        have hpy := HRI.out.le (show i - 1 ≤ i by omega) hp hy
        have HP := hide hp
        have hiff : Hid ((p ≤ x ∧ x < y) ↔ i = k) := hide ⟨fun h => first_spot HRI.out HK.out hy (.inr ⟨p, hp, h.1⟩) h.2, fun h => by subst h; exact ⟨HK.out.2.1 (i - 1) p (by omega) hp, first_lt HK.out hy⟩⟩
        clear hp hy hpr
        go_wp2_with fail
        refine (draw_span_next A m c _ l _ HR.out HL.out (by omega) i (by omega) y p HY.out HP.out hp0 hpy hy1).mono ?_; rintro e w' ⟨rfl, d, rfl⟩
        by_cases hpe : y = p
        · subst hpe
          have hik : ((i : Int) == (k : Int)) = false := by rw [beq_eq_false_iff_ne]; intro h; have := hiff.out.2 (by omega); omega
          have hik2 : (i == k) = false := by rw [beq_eq_false_iff_ne]; intro h; have := hiff.out.2 (by omega); omega
          rw [if_pos rfl]
          have hyy : y - y = 0 := by omega
          simp only [hyy]
          go_wp2_with fail
          go_roundw
          case rel => exact ⟨i + 1, by omega, by go_num, HR.out.drewN d, below_drewN hbel d⟩
          case measure => simp [intOf]; omega
        · rw [if_neg hpe]
          by_cases hpx : p ≤ x
          · by_cases hxy : x < y
            · obtain rfl := hiff.out.1 ⟨hpx, hxy⟩
              have dd : x - p < y - p := by omega
              go_wp2_with fail
              go_roundw
              case rel => exact ⟨i + 1, by omega, by go_num, HR.out.drewN d, below_drewN hbel d⟩
              case measure => simp [intOf]; omega
            · have hik : ((i : Int) == (k : Int)) = false := by rw [beq_eq_false_iff_ne]; intro h; have := hiff.out.2 (by omega); omega
              have hik2 : (i == k) = false := by rw [beq_eq_false_iff_ne]; intro h; have := hiff.out.2 (by omega); omega
              have dd : ¬ x - p < y - p := by omega
              go_wp2_with fail
              go_roundw
              case rel => exact ⟨i + 1, by omega, by go_num, HR.out.drewN d, below_drewN hbel d⟩
              case measure => simp [intOf]; omega
          · have hik : ((i : Int) == (k : Int)) = false := by rw [beq_eq_false_iff_ne]; intro h; have := hiff.out.2 (by omega); omega
            have hik2 : (i == k) = false := by rw [beq_eq_false_iff_ne]; intro h; have := hiff.out.2 (by omega); omega
            go_wp2_with fail
            go_roundw
            case rel => exact ⟨i + 1, by omega, by go_num, HR.out.drewN d, below_drewN hbel d⟩
            case measure => simp [intOf]; omega
    · go_wp2_with (go_at_call 36; refine (draw_alive _).mono ?_; rintro e w9 ⟨rfl, hb9⟩)
      go_ret
      exact ⟨rfl, then_ hbel hb9 (Nat.le_refl _)⟩

set_option maxRecDepth 100000 in
theorem drawInverse_lifted (os : Os) (started : os.Started) (H : Type) (enc : TypeId × Value → H) :
    ReturnsInHanded {} Try.checked os 8 .any (Rows.drawInverseSpec.pre6 enc Try.prog Try.f8 [] false) (Rows.drawInverseSpec.post enc Try.prog Try.f8 false true false false) := by
  refine law_lifted (C := Try.checked) Try.own started (by kernel_rfl) Try.func8
    (ChangeSpec.witness6 (enc := enc) (C := Try.checked) false ⟨#[], #[.int .i64 0, .int .u32 0], []⟩ 8 (by kernel_rfl) (by kernel_rfl) (by kernel_rfl) (by kernel_rfl))
    Try.laidOut (show ∀ t ∈ [3, 33], Try.prog.readableRec t = true ∧ t < Try.prog.types.size from by
      intro t ht; simp only [List.mem_cons, List.not_mem_nil, or_false] at ht; rcases ht with rfl | rfl <;> exact ⟨by kernel_rfl, of_decide_eq_true (by kernel_rfl)⟩) (tb := 4) (by kernel_rfl) Try.underlying4 rfl (fun ds hd => ?_) ?_
  · match ds, hd with
    | [_, _], _ => rfl
  · intro W base args ds p hval hA
    have hval' : ∀ (j : Nat) t v, Try.f8.params[j]? = some t → args[j]? = some v → Value.okWide Try.prog W .any base t v := hval
    rw [Try.params8] at hA hval'
    obtain ⟨v0, v1, d0, d1, p0, p1, rfl, rfl, rfl, h0, h1⟩ := trodAll_two hA
    obtain ⟨a0, rfl, w0⟩ := arg_int Try.underlying3 (hval' 0 _ _ rfl rfl) h0
    obtain ⟨a1, rfl, w1⟩ := arg_int Try.underlying33 (hval' 1 _ _ rfl rfl) h1
    have b1 := bounds_u32 w1
    exact drawInverse_walk a0 a1 b1.1 b1.2 W

theorem drawInverse_holds : Rows.DrawInverseSaid :=
  OpenClaim.holds_of_wide 8 Try.f8 rfl rfl rfl rfl rfl rfl rfl ⟨rfl, rfl, rfl, rfl, rfl⟩ rfl rfl rfl rfl rfl (by kernel_rfl) Try.func8 (by kernel_rfl)
    (of_decide_eq_true (by kernel_rfl)) (by unfold Func.isWrapper; first | (rw [if_pos (by decide +kernel)]; kernel_rfl) | (rw [if_neg (by decide +kernel)]; exact ⟨rfl, rfl⟩))
    (fun os started H enc _ => drawInverse_lifted os started H enc)
#print axioms drawInverse_holds
end Go.Proofs.Ytikdkljknbgphaa
