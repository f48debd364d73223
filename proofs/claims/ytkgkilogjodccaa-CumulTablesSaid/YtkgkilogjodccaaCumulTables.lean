/-
  The law CumulTables holds: whatever the rate, the call returns true and turns nothing. No condition.
-/
import Derived.Test.YtkgkilogjodccaaRows
import Derived.Test.YtkgkilogjodccaaFrame
import Derived.Test.YtkgkilogjodccaaCumAlive
namespace Go.Proofs.Ytkgkilogjodccaa
open Go.ChangeShapes Go.WideShapes Go.ChangeAt Go.RowKit HB CumP
set_option linter.unusedVariables false
set_option linter.unusedSimpArgs false

set_option maxRecDepth 100000 in
set_option maxHeartbeats 4000000 in
theorem cumulTables_walk (rate : Int) (w : World) :
    Calls Try.prog 3 #[.int .i64 rate] w fun e w' => e = .returned (.bool true) ∧ Below w.heap.size w w' := by
  by_cases hno : rate < 0 ∨ 4000 < rate
  · have hor : rate < 0 ∨ (0 ≤ rate ∧ 4000 < rate) := by omega
    have Hno := hide hno
    clear hno
    go_enter Try.func3, Try.ntmps3
    rcases hor with h | ⟨h, h'⟩
    all_goals
      go_wp2_with (first
        | (go_at_call 15; refine (cum_weights_no rate Hno.out _).mono ?_; rintro e w' ⟨rfl, rfl⟩)
        | (go_at_call 16; refine (cum_table_no rate Hno.out _).mono ?_; rintro e w' ⟨rfl, rfl⟩)
        | (go_at_call 17; refine (cum_alive _).mono ?_; rintro e w9 ⟨rfl, hb9⟩))
      go_ret
      exact ⟨rfl, hb9⟩
  · have h0 : 0 ≤ rate := by omega
    have h1 : rate ≤ 4000 := by omega
    clear hno
    go_enter Try.func3, Try.ntmps3
    go_wp2_with fail
    refine (cum_weights rate h0 h1 _).mono ?_; rintro e w1 ⟨v1, m, rfl, hm, hown1, hb1⟩
    have HM := hide hm
    have m64 := hm.2.1
    clear hm
    obtain ⟨A1, c1, rfl, hc1, hrd1⟩ := hown1.ints
    rw [wl_length] at hc1 hrd1
    simp only [wl_length]
    have R1 := hide hrd1
    have hz1 := hb1.size
    clear hown1 hrd1
    go_wp2_with fail
    refine (cum_table rate h0 h1 _).mono ?_; rintro e w2 ⟨v2, m', rfl, hm2, hown2, hb2⟩
    obtain rfl := HM.out.one hm2
    obtain ⟨A2, c2, rfl, hc2, hrd2⟩ := hown2.ints
    rw [tb_length] at hc2 hrd2
    simp only [tb_length]
    have R2 := hide hrd2
    have R1b := hide (R1.out.below hb2)
    have hz2 := hb2.size
    have hB2 := then_ hb1 hb2 (Nat.le_refl _)
    clear hown2 hrd2 hm2
    go_wp2_with fail
    refine (ref_weights rate h0 h1 _).mono ?_; rintro e w3 ⟨v3, m', rfl, hm3, hown3, hb3⟩
    obtain rfl := HM.out.one hm3
    obtain ⟨A3, c3, rfl, hc3, hrd3⟩ := hown3.ints
    rw [wl_length] at hc3 hrd3
    simp only [wl_length]
    have R3 := hide hrd3
    have R1c := hide (R1b.out.below (hb3.mono hz2))
    have R2c := hide (R2.out.below hb3)
    have hB3 := then_ hB2 hb3 (Nat.le_refl _)
    have hz3 := hb3.size
    clear hown3 hrd3 hm3
    go_wp2_with fail
    refine (eqU64 _ _ _ _ _ _ _ _ _ _ _ R1c.out R3.out (by omega) (by omega)).mono ?_; rintro e w4 ⟨rfl, d1, rfl⟩
    simp only [decide_true]
    go_wp2_with fail
    refine (ref_table rate h0 h1 _).mono ?_; rintro e w5 ⟨v5, m', rfl, hm5, hown5, hb5⟩
    obtain rfl := HM.out.one hm5
    obtain ⟨A5, c5, rfl, hc5, hrd5⟩ := hown5.ints
    rw [tb_length] at hc5 hrd5
    simp only [tb_length]
    have R5 := hide hrd5
    have R2d := hide ((R2c.out.drewN d1).below (hb5.mono hz3))
    have hB5 := then_ (below_drewN hB3 d1) hb5 (Nat.le_refl _)
    clear hown5 hrd5 hm5
    go_wp2_with fail
    refine (eqU64 _ _ _ _ _ _ _ _ _ _ _ R2d.out R5.out (by omega) (by omega)).mono ?_; rintro e w6 ⟨rfl, d2, rfl⟩
    simp only [decide_true]
    go_wp2_with (go_at_call 17; refine (cum_alive _).mono ?_; rintro e w9 ⟨rfl, hb9⟩)
    go_ret
    exact ⟨rfl, then_ (below_drewN hB5 d2) hb9 (Nat.le_refl _)⟩

set_option maxRecDepth 100000 in
theorem cumulTables_lifted (os : Os) (started : os.Started) (H : Type) (enc : TypeId × Value → H) :
    ReturnsInHanded {} Try.checked os 3 .any (Rows.cumulTablesSpec.pre6 enc Try.prog Try.f3 [] false) (Rows.cumulTablesSpec.post enc Try.prog Try.f3 false true false false) := by
  refine law_lifted (C := Try.checked) Try.own started (by kernel_rfl) Try.func3
    (ChangeSpec.witness6 (enc := enc) (C := Try.checked) false ⟨#[], #[.int .i64 0], []⟩ 8 (by kernel_rfl) (by kernel_rfl) (by kernel_rfl) (by kernel_rfl))
    Try.laidOut (show ∀ t ∈ [3], Try.prog.readableRec t = true ∧ t < Try.prog.types.size from by
      intro t ht; simp only [List.mem_cons, List.not_mem_nil, or_false] at ht; subst ht <;> exact ⟨by kernel_rfl, of_decide_eq_true (by kernel_rfl)⟩) (tb := 4) (by kernel_rfl) Try.underlying4 rfl (fun ds hd => ?_) ?_
  · match ds, hd with
    | [_], _ => rfl
  · intro W base args ds p hval hA
    have hval' : ∀ (j : Nat) t v, Try.f3.params[j]? = some t → args[j]? = some v → Value.okWide Try.prog W .any base t v := hval
    rw [Try.params3] at hA hval'
    obtain ⟨v0, d0, rfl, rfl, h0⟩ := trodAll_one hA
    obtain ⟨a0, rfl, w0⟩ := arg_int Try.underlying3 (hval' 0 _ _ rfl rfl) h0
    exact cumulTables_walk a0 W

theorem cumulTables_holds : Rows.CumulTablesSaid :=
  OpenClaim.holds_of_wide 3 Try.f3 rfl rfl rfl rfl rfl rfl rfl ⟨rfl, rfl, rfl, rfl, rfl⟩ rfl rfl rfl rfl rfl (by kernel_rfl) Try.func3 (by kernel_rfl)
    (of_decide_eq_true (by kernel_rfl)) (by unfold Func.isWrapper; first | (rw [if_pos (by decide +kernel)]; kernel_rfl) | (rw [if_neg (by decide +kernel)]; exact ⟨rfl, rfl⟩))
    (fun os started H enc _ => cumulTables_lifted os started H enc)
#print axioms cumulTables_holds
end Go.Proofs.Ytkgkilogjodccaa
