/-
  The law ParkLeast holds: whatever the weights and the number of floors, the call returns true and turns nothing. No condition.
-/
import Derived.Test.YtalecppofemcnaaRows
import Derived.Test.YtalecppofemcnaaFrame
import Derived.Test.YtalecppofemcnaaParkClone
import Derived.Test.YtalecppofemcnaaParkAlive
import Derived.Test.YtalecppofemcnaaParkMin
namespace Go.Proofs.Ytalecppofemcnaa
open Go.ChangeShapes Go.WideShapes Go.ChangeAt Go.RowKit HB ParkP
set_option linter.unusedVariables false
set_option linter.unusedSimpArgs false

set_option maxRecDepth 100000 in
set_option maxHeartbeats 4000000 in
theorem parkLeast_no (A : Option Addr) (n c : Nat) (l : List Int) (k : Int) (w : World) (hr : Rd w w.heap.size 1 A n (l.map (Value.int .i64))) (hl : l.length = n) (hn : n ≤ 9223372036854775807) (h : okP l = false ∨ k < 1) :
    Calls Try.prog 9 #[.slice A n c, .int .i64 k] w fun e w' => e = .returned (.bool true) ∧ Below w.heap.size w w' := by
  have HB := hide (park_best_no A n c w.heap.size l k w hr hl hn h)
  have h1 := ref_right A n c w.heap.size l w hr hl hn
  cases hok : okP l with
  | false =>
    rw [hok] at h1
    have H1 := hide h1
    clear h1 hok hr hl h
    go_enter Try.func9, Try.ntmps9
    go_wp2_with (first | (go_at_call 30; refine (HB.out).mono ?_; rintro e w1 ⟨rfl, rfl⟩) | (go_at_call 31; refine (H1.out).mono ?_; rintro e w1 ⟨rfl, rfl⟩) | (go_at_call 32; refine (park_alive _).mono ?_; rintro e w9 ⟨rfl, hb9⟩))
    go_ret
    exact ⟨rfl, hb9⟩
  | true =>
    rw [hok] at h1
    have H1 := hide h1
    have hk : k < 1 := by rcases h with h | h; · rw [hok] at h; cases h
                          · exact h
    clear h1 hok hr hl h
    go_enter Try.func9, Try.ntmps9
    go_wp2_with (first | (go_at_call 30; refine (HB.out).mono ?_; rintro e w1 ⟨rfl, rfl⟩) | (go_at_call 31; refine (H1.out).mono ?_; rintro e w1 ⟨rfl, rfl⟩) | (go_at_call 32; refine (park_alive _).mono ?_; rintro e w9 ⟨rfl, hb9⟩))
    go_ret
    exact ⟨rfl, hb9⟩
set_option maxRecDepth 100000 in
set_option maxHeartbeats 4000000 in
theorem parkLeast_yes (A : Option Addr) (n c : Nat) (l : List Int) (k : Int) (w : World) (hr : Rd w w.heap.size 1 A n (l.map (Value.int .i64))) (hl : l.length = n) (hok : okP l = true) (hk : 1 ≤ k) :
    Calls Try.prog 9 #[.slice A n c, .int .i64 k] w fun e w' => e = .returned (.bool true) ∧ Below w.heap.size w w' := by
  obtain ⟨g0, gn, -⟩ := okP_yes hok
  rw [hl] at g0 gn
  obtain ⟨K, hK⟩ : ∃ K : Nat, min k (n : Int) = (K : Int) := ⟨(min k (n : Int)).toNat, by omega⟩
  have hBe := park_best A n c w.heap.size K l k w hr (Nat.le_refl _) hl hok hk hK
  unfold Best.Post at hBe
  have hT := bl_top hok hl hk (K := K) (by omega)
  have hL := fun (w1 : World) (h : Below w.heap.size w w1) (h9 : n ≤ 9) => ref_least A n c w.heap.size l k w1 (hr.below h) h.size hl hok h9
  have h1 := fun (w1 : World) (h : Below w.heap.size w w1) => ref_right A n c w.heap.size l w1 (hr.below h) hl (by omega)
  simp only [hok] at h1
  simp only [hT] at hL
  generalize hTe : tc l (bst l n (K + 1)) n = T at *
  generalize reco l (bst l n (K + 1)) n = F at *
  have HB := hide hBe
  have H1 := hide h1
  have HL := hide hL
  clear hBe h1 hL hTe hT hok hr hl hK
  by_cases h9 : 9 < n
  · go_enter Try.func9, Try.ntmps9
    go_wp2_with (go_at_call 30; refine (HB.out).mono ?_; rintro e w1 ⟨v, rfl, hown, hb1⟩)
    have h2 := hide (H1.out w1 hb1)
    go_wp2_with (first | (go_at_call 31; refine (h2.out).mono ?_; rintro e w2 ⟨rfl, rfl⟩) | (go_at_call 32; refine (park_alive _).mono ?_; rintro e w9 ⟨rfl, hb9⟩))
    go_ret
    exact ⟨rfl, then_ hb1 hb9 (Nat.le_refl _)⟩
  · go_enter Try.func9, Try.ntmps9
    go_wp2_with (go_at_call 30; refine (HB.out).mono ?_; rintro e w1 ⟨v, rfl, hown, hb1⟩)
    have h2 := hide (H1.out w1 hb1)
    have h3 := hide (HL.out w1 hb1 (by omega))
    have hz := hb1.size
    go_wp2_with (first | (go_at_call 31; refine (h2.out).mono ?_; rintro e w2 ⟨rfl, rfl⟩) | (go_at_call 33; refine (h3.out).mono ?_; rintro e w3 ⟨rfl, hb3⟩) | (go_at_call 32; refine (park_alive _).mono ?_; rintro e w9 ⟨rfl, hb9⟩))
    go_ret
    exact ⟨rfl, then_ (then_ hb1 hb3 (Nat.le_refl _)) hb9 (Nat.le_refl _)⟩

set_option maxRecDepth 100000 in
theorem parkLeast_lifted (os : Os) (started : os.Started) (H : Type) (enc : TypeId × Value → H) :
    ReturnsInHanded {} Try.checked os 9 .any (Rows.parkLeastSpec.pre6 enc Try.prog Try.f9 [] false) (Rows.parkLeastSpec.post enc Try.prog Try.f9 false true false false) := by
  refine law_lifted (C := Try.checked) Try.own started (by kernel_rfl) Try.func9
    (ChangeSpec.witness6 (enc := enc) (C := Try.checked) false ⟨#[], #[.slice none 0 0, .int .i64 0], []⟩ 8 (by kernel_rfl) (by kernel_rfl) (by kernel_rfl) (by kernel_rfl))
    Try.laidOut (show ∀ t ∈ [26, 3], Try.prog.readableRec t = true ∧ t < Try.prog.types.size from by
      intro t ht; simp only [List.mem_cons, List.not_mem_nil, or_false] at ht; rcases ht with rfl | rfl <;> exact ⟨by kernel_rfl, of_decide_eq_true (by kernel_rfl)⟩) (tb := 4) (by kernel_rfl) Try.underlying4 rfl (fun ds hd => ?_) ?_
  · match ds, hd with
    | [_, _], _ => rfl
  · intro W base args ds p hval hA
    have hval' : ∀ (j : Nat) t v, Try.f9.params[j]? = some t → args[j]? = some v → Value.okWide Try.prog W .any base t v := hval
    rw [Try.params9] at hA hval'
    obtain ⟨v0, v1, d0, d1, p0, p1, rfl, rfl, rfl, h0, h1⟩ := trodAll_two hA
    obtain ⟨A, n, c, l, rfl, hl, hcA, hcB, _, hr⟩ := arg_ints Try.underlying26 Try.underlying3 (by kernel_rfl) (hval' 0 _ _ rfl rfl) h0
    obtain ⟨k, rfl, w1⟩ := arg_int Try.underlying3 (hval' 1 _ _ rfl rfl) h1
    have hn : n ≤ 9223372036854775807 := by
      simp only [maxLen] at hcB; omega
    by_cases hc : okP l = false ∨ k < 1
    · exact parkLeast_no A n c l k W hr hl hn hc
    · exact parkLeast_yes A n c l k W hr hl (by cases h : okP l with | true => rfl | false => exact absurd (.inl h) hc) (by omega)

theorem parkLeast_holds : Rows.ParkLeastSaid :=
  OpenClaim.holds_of_wide 9 Try.f9 rfl rfl rfl rfl rfl rfl rfl ⟨rfl, rfl, rfl, rfl, rfl⟩ rfl rfl rfl rfl rfl (by kernel_rfl) Try.func9 (by kernel_rfl)
    (of_decide_eq_true (by kernel_rfl)) (by unfold Func.isWrapper; first | (rw [if_pos (by decide +kernel)]; kernel_rfl) | (rw [if_neg (by decide +kernel)]; exact ⟨rfl, rfl⟩))
    (fun os started H enc _ => parkLeast_lifted os started H enc)
#print axioms parkLeast_holds
end Go.Proofs.Ytalecppofemcnaa
