/-
  The law ParkCosts holds: whatever the weights and the floors, the call returns true and turns nothing. No condition.
-/
import Derived.Test.YtalecppofemcnaaRows
import Derived.Test.YtalecppofemcnaaFrame
import Derived.Test.YtalecppofemcnaaParkRefC
import Derived.Test.YtalecppofemcnaaParkAlive
namespace Go.Proofs.Ytalecppofemcnaa
open Go.ChangeShapes Go.WideShapes Go.ChangeAt Go.RowKit HB ParkP
set_option linter.unusedVariables false
set_option linter.unusedSimpArgs false

set_option maxRecDepth 100000 in
set_option maxHeartbeats 4000000 in
theorem parkCosts_small (A A' : Option Addr) (n c m c' : Nat) (l F : List Int) (w : World) (hr : Rd w w.heap.size 1 A n (l.map (Value.int .i64))) (hl : l.length = n) (hr' : Rd w w.heap.size 1 A' m (F.map (Value.int .i64))) (hl' : F.length = m) (hn : n ≤ 200) (hm : m ≤ 100) :
    Calls Try.prog 10 #[.slice A n c, .slice A' m c'] w fun e w' => e = .returned (.bool true) ∧ Below w.heap.size w w' := by
  have h1 := park_cost A A' n c m c' w.heap.size l F w hr hl hr' hl' (by omega) (by omega)
  have h2 := fun (k : Nat) => ref_cost A A' n c m c' w.heap.size l F (w.drewN k) (hr.drewN k) hl (hr'.drewN k) hl' (by omega) (by omega)
  unfold CostPost at h1
  unfold CostPost2 at h2
  have d1 : decide (200 < n) = false := by simp; omega
  have d2 : decide (100 < m) = false := by simp; omega
  have hself : (cs l F l.length == cs l F l.length) = true := by simp
  generalize cs l F l.length = s at *
  cases hg : good l F with
  | true =>
    simp only [hg, if_true] at h1 h2
    have H1 := hide h1
    have H2 := hide h2
    clear h1 h2 hg hr hr' hl hl'
    go_enter Try.func10, Try.ntmps10
    go_wp2_with (first
      | (go_at_call 34; refine (H1.out).mono ?_; rintro e w1 ⟨rfl, k, rfl⟩)
      | (go_at_call 35; refine (H2.out _).mono ?_; rintro e w1 ⟨rfl, rfl⟩)
      | (go_at_call 32; refine (park_alive _).mono ?_; rintro e w9 ⟨rfl, hb9⟩))
    go_ret
    exact ⟨rfl, then_ (below_drewN (Below.refl _ _) _) hb9 (Nat.le_refl _)⟩
  | false =>
    simp only [hg, Bool.false_eq_true, if_false] at h1 h2
    have H1 := hide h1
    have H2 := hide h2
    clear h1 h2 hg hr hr' hl hl' hself
    go_enter Try.func10, Try.ntmps10
    go_wp2_with (first
      | (go_at_call 34; refine (H1.out).mono ?_; rintro e w1 ⟨rfl, k, rfl⟩)
      | (go_at_call 35; refine (H2.out _).mono ?_; rintro e w1 ⟨rfl, rfl⟩)
      | (go_at_call 32; refine (park_alive _).mono ?_; rintro e w9 ⟨rfl, hb9⟩))
    go_ret
    exact ⟨rfl, then_ (below_drewN (Below.refl _ _) _) hb9 (Nat.le_refl _)⟩
set_option maxRecDepth 100000 in
theorem parkCosts_walk (A A' : Option Addr) (n c m c' : Nat) (l F : List Int) (w : World) (hr : Rd w w.heap.size 1 A n (l.map (Value.int .i64))) (hl : l.length = n) (hr' : Rd w w.heap.size 1 A' m (F.map (Value.int .i64))) (hl' : F.length = m) :
    Calls Try.prog 10 #[.slice A n c, .slice A' m c'] w fun e w' => e = .returned (.bool true) ∧ Below w.heap.size w w' := by
  by_cases hbig : 200 < n ∨ 100 < m
  · have hor : 200 < n ∨ (n ≤ 200 ∧ 100 < m) := by omega
    clear hbig hl hl' hr hr'
    rcases hor with h | ⟨h, h'⟩
    · go_enter Try.func10, Try.ntmps10
      go_wp2_with fail
      go_ret
      exact ⟨rfl, Below.refl _ _⟩
    · go_enter Try.func10, Try.ntmps10
      go_wp2_with fail
      go_ret
      exact ⟨rfl, Below.refl _ _⟩
  · exact parkCosts_small A A' n c m c' l F w hr hl hr' hl' (by omega) (by omega)

set_option maxRecDepth 100000 in
theorem parkCosts_lifted (os : Os) (started : os.Started) (H : Type) (enc : TypeId × Value → H) :
    ReturnsInHanded {} Try.checked os 10 .any (Rows.parkCostsSpec.pre6 enc Try.prog Try.f10 [] false) (Rows.parkCostsSpec.post enc Try.prog Try.f10 false true false false) := by
  refine law_lifted (C := Try.checked) Try.own started (by kernel_rfl) Try.func10
    (ChangeSpec.witness6 (enc := enc) (C := Try.checked) false ⟨#[], #[.slice none 0 0, .slice none 0 0], []⟩ 8 (by kernel_rfl) (by kernel_rfl) (by kernel_rfl) (by kernel_rfl))
    Try.laidOut (show ∀ t ∈ [26, 26], Try.prog.readableRec t = true ∧ t < Try.prog.types.size from by
      intro t ht; simp only [List.mem_cons, List.not_mem_nil, or_false] at ht; rcases ht with rfl | rfl <;> exact ⟨by kernel_rfl, of_decide_eq_true (by kernel_rfl)⟩) (tb := 4) (by kernel_rfl) Try.underlying4 rfl (fun ds hd => ?_) ?_
  · match ds, hd with
    | [_, _], _ => rfl
  · intro W base args ds p hval hA
    have hval' : ∀ (j : Nat) t v, Try.f10.params[j]? = some t → args[j]? = some v → Value.okWide Try.prog W .any base t v := hval
    rw [Try.params10] at hA hval'
    obtain ⟨v0, v1, d0, d1, p0, p1, rfl, rfl, rfl, h0, h1⟩ := trodAll_two hA
    obtain ⟨A, n, c, l, rfl, hl, _, _, _, hr⟩ := arg_ints Try.underlying26 Try.underlying3 (by kernel_rfl) (hval' 0 _ _ rfl rfl) h0
    obtain ⟨A', m, c', F, rfl, hl', _, _, _, hr'⟩ := arg_ints Try.underlying26 Try.underlying3 (by kernel_rfl) (hval' 1 _ _ rfl rfl) h1
    exact parkCosts_walk A A' n c m c' l F W hr hl hr' hl'

theorem parkCosts_holds : Rows.ParkCostsSaid :=
  OpenClaim.holds_of_wide 10 Try.f10 rfl rfl rfl rfl rfl rfl rfl ⟨rfl, rfl, rfl, rfl, rfl⟩ rfl rfl rfl rfl rfl (by kernel_rfl) Try.func10 (by kernel_rfl)
    (of_decide_eq_true (by kernel_rfl)) (by unfold Func.isWrapper; first | (rw [if_pos (by decide +kernel)]; kernel_rfl) | (rw [if_neg (by decide +kernel)]; exact ⟨rfl, rfl⟩))
    (fun os started H enc _ => parkCosts_lifted os started H enc)
#print axioms parkCosts_holds
end Go.Proofs.Ytalecppofemcnaa
