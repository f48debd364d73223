/-
  The law WordsBelow holds: whatever the stream and the bound, the call returns true and turns nothing. No condition.
-/
import Derived.Test.YtikdkljknbgphaaRows
import Derived.Test.YtikdkljknbgphaaFrame
import Derived.Test.YtikdkljknbgphaaWordsLaw
namespace Go.Proofs.Ytikdkljknbgphaa
open Go.ChangeShapes Go.WideShapes Go.ChangeAt Go.RowKit HB PickP

set_option maxRecDepth 100000 in
set_option maxHeartbeats 4000000 in
theorem wordsBelow_no (A : Option Addr) (n c : Nat) (ws : List Int) (at_ y : Int) (w : World) (hr : Rd w w.heap.size 1 A n (ws.map (Value.int .u32))) (hn : n ≤ 1000) (hb0 : (y == 0) = false) (hd : at_ < 0 ∨ (n : Int) ≤ at_) :
    Calls Try.prog 13 #[Words.st A n c at_, .int .u32 y] w fun e w' => e = .returned (.bool true) ∧ Below w.heap.size w w' := by
  have D := hide hd
  have L := hide (show Words.left at_ n = 0 by unfold Words.left; split <;> omega)
  have dn : decide (1000 < n) = false := by simp; omega
  clear hd
  go_enter Try.func13, Try.ntmps13
  go_wp2_with fail
  refine (words_below_dry A n c at_ y (by omega) hb0 _ D.out).mono ?_; rintro e w1 ⟨rfl, hb1⟩
  have k0 := hold1 hb1 (p := ⟨w.heap.size, 0, none⟩) (v := .slice A n c) (by simp)
  have k1 := hold1 hb1 (p := ⟨w.heap.size, 1, none⟩) (v := .int .i64 at_) (by simp)
  have z0 := sizes (szb (k := w.heap.size) hb1 (by simp))
  have hB := then_ (show Below w.heap.size w _ from by go_grown) hb1 (Nat.le_refl _)
  clear hb1
  go_wp2_with fail
  refine (left_law A n c at_ (by omega) _).mono ?_; rintro e w2 ⟨rfl, hb2⟩; simp only [L.out]
  have q0 := hold1 hb2 (p := ⟨w.heap.size, 0, none⟩) (v := .slice A n c) (by simp [go_sem, *])
  have q1 := hold1 hb2 (p := ⟨w.heap.size, 1, none⟩) (v := .int .i64 at_) (by simp [go_sem, *])
  have q2 := hold1 hb2 (p := ⟨w1.heap.size, 0, none⟩) (v := .slice A n c) (by simp)
  have q3 := hold1 hb2 (p := ⟨w1.heap.size, 1, none⟩) (v := .int .i64 at_) (by simp)
  have hB2 := then_ (hB.alloc z0.2.1 _) hb2 (Nat.le_refl _)
  clear hb2 k0 k1 hB z0
  have HR := hide (hr.below hB2)
  go_wp2_with (first
    | (go_at_call 47; refine (same_law A n c w.heap.size at_ ws (by omega) _ HR.out hB2.size).mono ?_; rintro e w3 ⟨rfl, hb3⟩)
    | (go_at_call 48; refine (words_alive _).mono ?_; rintro e w4 ⟨rfl, rfl⟩))
  go_ret
  exact ⟨rfl, then_ hB2 hb3 (Nat.le_refl _)⟩

set_option maxRecDepth 100000 in
set_option maxHeartbeats 4000000 in
theorem wordsBelow_zero (A : Option Addr) (n c : Nat) (ws : List Int) (at_ : Int) (w : World) (hr : Rd w w.heap.size 1 A n (ws.map (Value.int .u32))) (hn : n ≤ 1000) :
    Calls Try.prog 13 #[Words.st A n c at_, .int .u32 0] w fun e w' => e = .returned (.bool true) ∧ Below w.heap.size w w' := by
  have dn : decide (1000 < n) = false := by simp; omega
  go_enter Try.func13, Try.ntmps13
  go_wp2_with fail
  refine (words_below_zero A n c at_ _).mono ?_; rintro e w1 ⟨rfl, hb1⟩
  have k0 := hold1 hb1 (p := ⟨w.heap.size, 0, none⟩) (v := .slice A n c) (by simp)
  have k1 := hold1 hb1 (p := ⟨w.heap.size, 1, none⟩) (v := .int .i64 at_) (by simp)
  have z0 := sizes (szb (k := w.heap.size) hb1 (by simp))
  have hB := then_ (show Below w.heap.size w _ from by go_grown) hb1 (Nat.le_refl _)
  clear hb1
  have HR := hide (hr.below hB)
  go_wp2_with (first
    | (go_at_call 47; refine (same_law A n c w.heap.size at_ ws (by omega) _ (HR.out.alloc hB.size _) (by simp; omega)).mono ?_; rintro e w3 ⟨rfl, hb3⟩)
    | (go_at_call 48; refine (words_alive _).mono ?_; rintro e w4 ⟨rfl, rfl⟩))
  go_ret
  exact ⟨rfl, then_ (hB.alloc z0.2.1 _) hb3 (Nat.le_refl _)⟩

set_option maxRecDepth 100000 in
set_option maxHeartbeats 4000000 in
theorem wordsBelow_yes (A : Option Addr) (n c k : Nat) (ws : List Int) (y : Int) (w : World) (hr : Rd w w.heap.size 1 A n (ws.map (Value.int .u32))) (hl : ws.length = n) (hw : ∀ x ∈ ws, (Lit.int .u32 x).wf = true) (hn : n ≤ 1000) (hb0 : (y == 0) = false) (hy : 0 ≤ y) (hy1 : y ≤ 4294967295) (hk : k < n) :
    Calls Try.prog 13 #[Words.st A n c k, .int .u32 y] w fun e w' => e = .returned (.bool true) ∧ Below w.heap.size w w' := by
  obtain ⟨b, off, x, rfl, hb, hg, c0⟩ := hr.int_at hl hk
  obtain ⟨x0, x1⟩ := bounds_u32 (hw x (List.mem_of_getElem? hg))
  have L := hide (show Words.left k n = n - k by unfold Words.left; rw [if_neg (by omega)])
  have dn : decide (1000 < n) = false := by simp; omega
  have hz : (((n : Int) - (k : Int)) == 0) = false := by rw [beq_eq_false_iff_ne]; omega
  have i0 : (0 : Int) ≤ (k : Int) := by omega
  have i1 : (k : Int) < (n : Int) := by omega
  have y0 : 0 < y := by have := beq_eq_false_iff_ne.1 hb0; omega
  obtain ⟨m0, m1⟩ := mul_range x0 x1 hy hy1
  obtain ⟨n0, n1⟩ := num_range x0 x1 y0
  have hE : x * y / 4294967296 = num x y := rfl
  have d1 : decide (num x y < y) = true := by simpa using n1
  have HE := hide hE
  have M0 := hide m0
  have M1 := hide m1
  have C0 := hide c0
  clear hl hw hg hE m0 m1
  go_enter Try.func13, Try.ntmps13
  go_wp2_with fail
  refine (words_below b off n c k x y (by omega) hb0 x0 x1 hy hy1 _ hk (by simp [go_sem, C0.out, sizes hb])).mono ?_; rintro e w1 ⟨rfl, hb1⟩
  have k0 := hold1 hb1 (p := ⟨w.heap.size, 0, none⟩) (v := .slice (some ⟨b, off, none⟩) n c) (by simp)
  have k1 := hold1 hb1 (p := ⟨w.heap.size, 1, none⟩) (v := .int .i64 k) (by simp)
  have z0 := sizes (szb (k := w.heap.size) hb1 (by simp))
  have hB := then_ (show Below w.heap.size w _ from by go_grown) hb1 (Nat.le_refl _)
  clear hb1 c0
  go_wp2_with fail
  refine (left_law _ n c k (by omega) _).mono ?_; rintro e w2 ⟨rfl, hb2⟩; simp only [L.out]
  have q0 := hold1 hb2 (p := ⟨w.heap.size, 0, none⟩) (v := .slice (some ⟨b, off, none⟩) n c) (by simp [go_sem, *])
  have q1 := hold1 hb2 (p := ⟨w.heap.size, 1, none⟩) (v := .int .i64 k) (by simp [go_sem, *])
  have q2 := hold1 hb2 (p := ⟨w1.heap.size, 0, none⟩) (v := .slice (some ⟨b, off, none⟩) n c) (by simp)
  have q3 := hold1 hb2 (p := ⟨w1.heap.size, 1, none⟩) (v := .int .i64 ((k : Int) + 1)) (by simp)
  have hB2 := then_ (hB.alloc z0.2.1 _) hb2 (Nat.le_refl _)
  have q4 := (hB2.cell (p := ⟨b, off + k, none⟩) hb).trans C0.out
  clear hb2 k0 k1 hB z0
  have HR := hide (hr.below hB2)
  have m0 := M0.out
  have m1 := M1.out
  have hE := HE.out
  clear hr
  go_wp2_with (first
    | (go_at_call 25; refine (eqU32 _ _ _ _ _ _ w.heap.size w.heap.size ws ws _ HR.out HR.out (by omega) (by omega)).mono ?_; rintro e w3 ⟨rfl, m, rfl⟩; simp only [decide_true])
    | (go_at_call 48; refine (words_alive _).mono ?_; rintro e w4 ⟨rfl, rfl⟩))
  go_ret
  exact ⟨rfl, below_drewN hB2 _⟩

theorem wordsBelow_walk (A : Option Addr) (n c : Nat) (ws : List Int) (at_ y : Int) (w : World) (hr : Rd w w.heap.size 1 A n (ws.map (Value.int .u32))) (hl : ws.length = n) (hw : ∀ x ∈ ws, (Lit.int .u32 x).wf = true) (hy : 0 ≤ y) (hy1 : y ≤ 4294967295) :
    Calls Try.prog 13 #[Words.st A n c at_, .int .u32 y] w fun e w' => e = .returned (.bool true) ∧ Below w.heap.size w w' := by
  by_cases hbig : 1000 < n
  · go_enter Try.func13, Try.ntmps13
    go_wp2_with fail
    go_ret
    exact ⟨rfl, by go_grown⟩
  · by_cases h0 : y = 0
    · subst h0
      exact wordsBelow_zero A n c ws at_ w hr (by omega)
    · by_cases hd : at_ < 0 ∨ (n : Int) ≤ at_
      · exact wordsBelow_no A n c ws at_ y w hr (by omega) (by simpa using h0) hd
      · obtain ⟨k, rfl⟩ := Int.eq_ofNat_of_zero_le (show 0 ≤ at_ by omega)
        exact wordsBelow_yes A n c k ws y w hr hl hw (by omega) (by simpa using h0) hy hy1 (by omega)

set_option maxRecDepth 100000 in
theorem wordsBelow_lifted (os : Os) (started : os.Started) (H : Type) (enc : TypeId × Value → H) :
    ReturnsInHanded {} Try.checked os 13 .any (Rows.wordsBelowSpec.pre6 enc Try.prog Try.f13 [] false) (Rows.wordsBelowSpec.post enc Try.prog Try.f13 false true false false) := by
  refine law_lifted (C := Try.checked) Try.own started (by kernel_rfl) Try.func13
    (ChangeSpec.witness6 (enc := enc) (C := Try.checked) false ⟨#[], #[.agg #[.slice none 0 0, .int .i64 0], .int .u32 0], []⟩ 8 (by kernel_rfl) (by kernel_rfl) (by kernel_rfl) (by kernel_rfl))
    Try.laidOut (show ∀ t ∈ [55, 33], Try.prog.readableRec t = true ∧ t < Try.prog.types.size from by
      intro t ht; simp only [List.mem_cons, List.not_mem_nil, or_false] at ht; rcases ht with rfl | rfl <;> exact ⟨by kernel_rfl, of_decide_eq_true (by kernel_rfl)⟩) (tb := 4) (by kernel_rfl) Try.underlying4 rfl (fun ds hd => ?_) ?_
  · match ds, hd with
    | [_, _], _ => rfl
  · intro W base args ds p hval hA
    have hval' : ∀ (j : Nat) t v, Try.f13.params[j]? = some t → args[j]? = some v → Value.okWide Try.prog W .any base t v := hval
    rw [Try.params13] at hA hval'
    obtain ⟨v0, v1, d0, d1, p0, p1, rfl, rfl, rfl, h0, h1⟩ := trodAll_two hA
    obtain ⟨us, m, rfl, hul, huf⟩ := arg_struct Try.underlying55 (by kernel_rfl) (by kernel_rfl) (hval' 0 _ _ rfl rfl) h0
    obtain ⟨A, n, c, ws, a1, rfl, hl, hc, hw, hr⟩ : ∃ (A : Option Addr) (n c : Nat) (ws : List Int) (a1 : Int), us = [.slice A n c, .int .i64 a1] ∧ ws.length = n ∧ n ≤ c ∧ (∀ x ∈ ws, (Lit.int .u32 x).wf = true) ∧ Rd W W.heap.size 1 A n (ws.map (Value.int .u32)) := by
      match us, hul with
      | [u0, u1], _ =>
        obtain ⟨y0, t0⟩ := huf 0 _ u0 rfl rfl
        obtain ⟨y1, t1⟩ := huf 1 _ u1 rfl rfl
        obtain ⟨A, n, c, l, e0, hl, hc, _, hw, hr⟩ := open_list (f := fun z => [Value.int .u32 z]) (m := 1) (fun _ => rfl) (by omega) (ok := fun z => (Lit.int .u32 z).wf = true) Try.underlying32 (by kernel_rfl)
          (fun n cs' y hy => by obtain ⟨z, h1, _, h2⟩ := DataW.trod_int Try.underlying33 hy; exact ⟨z, h1, h2⟩) t0
        obtain ⟨z, e1, _, _⟩ := DataW.trod_int Try.underlying3 t1
        simp only [List.cons.injEq, and_true] at e0 e1
        subst e0; subst e1
        rw [map_flat] at hr
        exact ⟨A, n, c, l, z, rfl, hl, hc, hw, hr⟩
    obtain ⟨a2, rfl, w2⟩ := arg_int Try.underlying33 (hval' 1 _ _ rfl rfl) h1
    have b2 := bounds_u32 w2
    exact wordsBelow_walk A n c ws a1 a2 W hr hl hw b2.1 b2.2

theorem wordsBelow_holds : Rows.WordsBelowSaid :=
  OpenClaim.holds_of_wide 13 Try.f13 rfl rfl rfl rfl rfl rfl rfl ⟨rfl, rfl, rfl, rfl, rfl⟩ rfl rfl rfl rfl rfl (by kernel_rfl) Try.func13 (by kernel_rfl)
    (of_decide_eq_true (by kernel_rfl)) (by unfold Func.isWrapper; first | (rw [if_pos (by decide +kernel)]; kernel_rfl) | (rw [if_neg (by decide +kernel)]; exact ⟨rfl, rfl⟩))
    (fun os started H enc _ => wordsBelow_lifted os started H enc)
#print axioms wordsBelow_holds
end Go.Proofs.Ytikdkljknbgphaa
