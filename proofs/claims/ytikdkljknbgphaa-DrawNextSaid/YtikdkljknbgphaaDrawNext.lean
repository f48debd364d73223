/-
  The law DrawNext holds: whatever the row and the stream, the call returns true and turns nothing. No condition.
-/
import Derived.Test.YtikdkljknbgphaaRows
import Derived.Test.YtikdkljknbgphaaFrame
import Derived.Test.YtikdkljknbgphaaDrawN
namespace Go.Proofs.Ytikdkljknbgphaa
open Go.ChangeShapes Go.WideShapes Go.ChangeAt Go.RowKit HB PickP TabP
set_option linter.unusedVariables false
set_option linter.unusedSimpArgs false

set_option maxRecDepth 100000 in
set_option maxHeartbeats 4000000 in
theorem drawNext_no (A : Option Addr) (at_ : Int) (n c : Nat) (ws : List Int) (w : World) (hr : Rd w w.heap.size 1 A n (ws.map (Value.int .u32))) (hl : ws.length = n) (A2 : Option Addr) (n2 c2 : Nat) (l : List Int) (hr2 : Rd w w.heap.size 1 A2 n2 (l.map (Value.int .u64))) (hl2 : l.length = n2) (hn : n ≤ 500) (hn2 : n2 ≤ 200) (ht : right l = false) :
    Calls Try.prog 9 #[.slice A2 n2 c2, Words.st A n c at_] w fun e w' => e = .returned (.bool true) ∧ Below w.heap.size w w' := by
  have dn : decide (500 < n) = false := by simp; omega
  have dn2 : decide (200 < n2) = false := by simp; omega
  have T := hide ht
  have Hl := hide hl
  have Hl2 := hide hl2
  have Hor := hide (show at_ < 0 ∨ (0 ≤ at_ ∧ (n : Int) ≤ at_) ∨ (0 ≤ at_ ∧ at_ < (n : Int)) by omega)
  clear hl hl2 ht
  go_enter Try.func9, Try.ntmps9
  go_wp2_with fail
  refine (draw_next_no A n c at_ _ A2 n2 c2 w.heap.size l (hr2.alloc (Nat.le_refl _) _) Hl2.out hn2 (by simp) T.out).mono ?_; rintro e w1 ⟨rfl, hb1⟩
  have k0 := hold1 hb1 (p := ⟨w.heap.size, 0, none⟩) (v := .slice A n c) (by simp)
  have k1 := hold1 hb1 (p := ⟨w.heap.size, 1, none⟩) (v := .int .i64 at_) (by simp)
  have z0 := sizes (szb (k := w.heap.size) hb1 (by simp))
  have hB := then_ (show Below w.heap.size w _ from by go_grown) hb1 (Nat.le_refl _)
  clear hb1
  have hz := hB.size
  have HR := hide ((hr.below hB).alloc hB.size (Words.box A n c at_))
  have HR2 := hide ((hr2.below hB).alloc hB.size (Words.box A n c at_))
  clear hr hr2
  rcases Hor.out with h | ⟨h, h'⟩ | ⟨h, h'⟩
  all_goals
    clear Hor
    go_wp2_with (first
      | (go_at_call 38; refine (ref_right A2 n2 c2 w.heap.size l _ HR2.out Hl2.out hn2).mono ?_; rintro e w' ⟨rfl, m1, rfl⟩; simp only [T.out])
      | (go_at_call 25; refine (eqU32 _ _ _ _ _ _ w.heap.size w.heap.size ws ws _ (HR.out.drewN _) (HR.out.drewN _) (by omega) (by omega)).mono ?_; rintro e w3 ⟨rfl, mm, rfl⟩; simp only [decide_true])
      | (go_at_call 36; refine (draw_alive _).mono ?_; rintro e w9 ⟨rfl, hb9⟩))
    go_ret
    exact ⟨rfl, then_ (by first | exact below_drewN (hB.alloc z0.2.1 _) _ | exact below_drewN (below_drewN (hB.alloc z0.2.1 _) _) _) hb9 (Nat.le_refl _)⟩

set_option maxRecDepth 100000 in
set_option maxHeartbeats 4000000 in
theorem drawNext_dry (A : Option Addr) (at_ : Int) (n c : Nat) (ws : List Int) (w : World) (hr : Rd w w.heap.size 1 A n (ws.map (Value.int .u32))) (hl : ws.length = n) (A2 : Option Addr) (n2 c2 : Nat) (l : List Int) (hr2 : Rd w w.heap.size 1 A2 n2 (l.map (Value.int .u64))) (hl2 : l.length = n2) (hn : n ≤ 500) (hn2 : n2 ≤ 200) (ht : right l = true) (hd : at_ < 0 ∨ (n : Int) ≤ at_) :
    Calls Try.prog 9 #[.slice A2 n2 c2, Words.st A n c at_] w fun e w' => e = .returned (.bool true) ∧ Below w.heap.size w w' := by
  have dn : decide (500 < n) = false := by simp; omega
  have dn2 : decide (200 < n2) = false := by simp; omega
  have T := hide ht
  have Hl := hide hl
  have Hl2 := hide hl2
  have D := hide hd
  have hor : at_ < 0 ∨ (0 ≤ at_ ∧ (n : Int) ≤ at_) := by omega
  have Hor := hide hor
  clear hl hl2 ht hd hor
  go_enter Try.func9, Try.ntmps9
  go_wp2_with fail
  refine (draw_next_dry A n c at_ (by omega) _ A2 n2 c2 w.heap.size l (hr2.alloc (Nat.le_refl _) _) Hl2.out hn2 (by simp) T.out D.out).mono ?_; rintro e w1 ⟨rfl, hb1⟩
  have k0 := hold1 hb1 (p := ⟨w.heap.size, 0, none⟩) (v := .slice A n c) (by simp)
  have k1 := hold1 hb1 (p := ⟨w.heap.size, 1, none⟩) (v := .int .i64 at_) (by simp)
  have z0 := sizes (szb (k := w.heap.size) hb1 (by simp))
  have hB := then_ (show Below w.heap.size w _ from by go_grown) hb1 (Nat.le_refl _)
  clear hb1
  have hz := hB.size
  have HR := hide ((hr.below hB).alloc hB.size (Words.box A n c at_))
  have HR2 := hide ((hr2.below hB).alloc hB.size (Words.box A n c at_))
  clear hr hr2
  rcases Hor.out with h | ⟨h, h'⟩
  all_goals
    clear D Hor
    go_wp2_with (first
      | (go_at_call 38; refine (ref_right A2 n2 c2 w.heap.size l _ HR2.out Hl2.out hn2).mono ?_; rintro e w' ⟨rfl, m1, rfl⟩; simp only [T.out])
      | (go_at_call 25; refine (eqU32 _ _ _ _ _ _ w.heap.size w.heap.size ws ws _ (HR.out.drewN _) (HR.out.drewN _) (by omega) (by omega)).mono ?_; rintro e w3 ⟨rfl, mm, rfl⟩; simp only [decide_true])
      | (go_at_call 36; refine (draw_alive _).mono ?_; rintro e w9 ⟨rfl, hb9⟩))
    go_ret
    exact ⟨rfl, then_ (by first | exact below_drewN (hB.alloc z0.2.1 _) _ | exact below_drewN (below_drewN (hB.alloc z0.2.1 _) _) _) hb9 (Nat.le_refl _)⟩

set_option maxRecDepth 100000 in
set_option maxHeartbeats 4000000 in
theorem drawNext_yes (A : Option Addr) (k : Nat) (n c : Nat) (ws : List Int) (w : World) (hr : Rd w w.heap.size 1 A n (ws.map (Value.int .u32))) (hl : ws.length = n) (A2 : Option Addr) (n2 c2 : Nat) (l : List Int) (hr2 : Rd w w.heap.size 1 A2 n2 (l.map (Value.int .u64))) (hl2 : l.length = n2) (hn : n ≤ 500) (hn2 : n2 ≤ 200) (hk : k < n) (hw : ∀ x ∈ ws, (Lit.int .u32 x).wf = true) (ht : right l = true) :
    Calls Try.prog 9 #[.slice A2 n2 c2, Words.st A n c k] w fun e w' => e = .returned (.bool true) ∧ Below w.heap.size w w' := by
  obtain ⟨b, off, x, rfl, hb, hg, c0⟩ := hr.int_at hl hk
  obtain ⟨j, hj⟩ := First.ex l x
  have Hj := hide hj
  obtain ⟨x0, x1⟩ := bounds_u32 (hw x (List.mem_of_getElem? hg))
  have i0 : (0 : Int) ≤ (k : Int) := by omega
  have i1 : (k : Int) < (n : Int) := by omega
  have dn : decide (500 < n) = false := by simp; omega
  have dn2 : decide (200 < n2) = false := by simp; omega
  have T := hide ht
  have Hl := hide hl
  have Hl2 := hide hl2
  have C0 := hide c0
  clear hl hl2 hw ht hg
  go_enter Try.func9, Try.ntmps9
  go_wp2_with fail
  refine (draw_next_yes b off n c k x (by omega) _ A2 n2 c2 w.heap.size l (hr2.alloc (Nat.le_refl _) _) Hl2.out hn2 (by simp) hk (by simp [go_sem, C0.out, sizes hb]) x0 x1 T.out j Hj.out).mono ?_; rintro e w1 ⟨rfl, hb1⟩
  clear hj c0
  have k0 := hold1 hb1 (p := ⟨w.heap.size, 0, none⟩) (v := .slice (some ⟨b, off, none⟩) n c) (by simp)
  have k1 := hold1 hb1 (p := ⟨w.heap.size, 1, none⟩) (v := .int .i64 k) (by simp)
  have z0 := sizes (szb (k := w.heap.size) hb1 (by simp))
  have hB := then_ (show Below w.heap.size w _ from by go_grown) hb1 (Nat.le_refl _)
  clear hb1
  have hz := hB.size
  have HR := hide ((hr.below hB).alloc hB.size (Words.box (some ⟨b, off, none⟩) n c ((k : Int) + 1)))
  have HR2 := hide ((hr2.below hB).alloc hB.size (Words.box (some ⟨b, off, none⟩) n c ((k : Int) + 1)))
  clear hr hr2
  have q4 := (hB.cell (p := ⟨b, off + k, none⟩) hb).trans C0.out
  have bz := sizes (Nat.lt_of_lt_of_le hb hz)
  go_wp2_with (first
    | (go_at_call 38; refine (ref_right A2 n2 c2 w.heap.size l _ HR2.out Hl2.out hn2).mono ?_; rintro e w' ⟨rfl, m1, rfl⟩; simp only [T.out])
    | (go_at_call 39; refine (ref_means_at A2 n2 c2 w.heap.size l _ (HR2.out.drewN _) Hl2.out hn2 x x0 x1 j Hj.out).mono ?_; rintro e w' ⟨rfl, rfl⟩)
    | (go_at_call 25; refine (eqU32 _ _ _ _ _ _ w.heap.size w.heap.size ws ws _ (HR.out.drewN _) (HR.out.drewN _) (by omega) (by omega)).mono ?_; rintro e w3 ⟨rfl, mm, rfl⟩; simp only [decide_true])
    | (go_at_call 36; refine (draw_alive _).mono ?_; rintro e w9 ⟨rfl, hb9⟩))
  go_ret
  exact ⟨rfl, then_ (by first | exact below_drewN (hB.alloc z0.2.1 _) _ | exact below_drewN (below_drewN (hB.alloc z0.2.1 _) _) _) hb9 (Nat.le_refl _)⟩

theorem drawNext_walk (A : Option Addr) (at_ : Int) (n c : Nat) (ws : List Int) (w : World) (hr : Rd w w.heap.size 1 A n (ws.map (Value.int .u32))) (hl : ws.length = n) (A2 : Option Addr) (n2 c2 : Nat) (l : List Int) (hr2 : Rd w w.heap.size 1 A2 n2 (l.map (Value.int .u64))) (hl2 : l.length = n2) (hw : ∀ x ∈ ws, (Lit.int .u32 x).wf = true) :
    Calls Try.prog 9 #[.slice A2 n2 c2, Words.st A n c at_] w fun e w' => e = .returned (.bool true) ∧ Below w.heap.size w w' := by
  by_cases hbig : 200 < n2 ∨ 500 < n
  · have hor : 200 < n2 ∨ (n2 ≤ 200 ∧ 500 < n) := by omega
    clear hl hl2 hbig
    go_enter Try.func9, Try.ntmps9
    rcases hor with h | ⟨h, h'⟩
    all_goals
      go_wp2_with fail
      go_ret
      exact ⟨rfl, by go_grown⟩
  · cases ht : right l with
    | false => exact drawNext_no A at_ n c ws w hr hl A2 n2 c2 l hr2 hl2 (by omega) (by omega) ht
    | true =>
      by_cases hd : at_ < 0 ∨ (n : Int) ≤ at_
      · exact drawNext_dry A at_ n c ws w hr hl A2 n2 c2 l hr2 hl2 (by omega) (by omega) ht hd
      · obtain ⟨k, rfl⟩ := Int.eq_ofNat_of_zero_le (show 0 ≤ at_ by omega)
        exact drawNext_yes A k n c ws w hr hl A2 n2 c2 l hr2 hl2 (by omega) (by omega) (by omega) hw ht

set_option maxRecDepth 100000 in
theorem drawNext_lifted (os : Os) (started : os.Started) (H : Type) (enc : TypeId × Value → H) :
    ReturnsInHanded {} Try.checked os 9 .any (Rows.drawNextSpec.pre6 enc Try.prog Try.f9 [] false) (Rows.drawNextSpec.post enc Try.prog Try.f9 false true false false) := by
  refine law_lifted (C := Try.checked) Try.own started (by kernel_rfl) Try.func9
    (ChangeSpec.witness6 (enc := enc) (C := Try.checked) false ⟨#[], #[.slice none 0 0, .agg #[.slice none 0 0, .int .i64 0]], []⟩ 8 (by kernel_rfl) (by kernel_rfl) (by kernel_rfl) (by kernel_rfl))
    Try.laidOut (show ∀ t ∈ [48, 55], Try.prog.readableRec t = true ∧ t < Try.prog.types.size from by
      intro t ht; simp only [List.mem_cons, List.not_mem_nil, or_false] at ht; rcases ht with rfl | rfl <;> exact ⟨by kernel_rfl, of_decide_eq_true (by kernel_rfl)⟩) (tb := 4) (by kernel_rfl) Try.underlying4 rfl (fun ds hd => ?_) ?_
  · match ds, hd with
    | [_, _], _ => rfl
  · intro W base args ds p hval hA
    have hval' : ∀ (j : Nat) t v, Try.f9.params[j]? = some t → args[j]? = some v → Value.okWide Try.prog W .any base t v := hval
    rw [Try.params9] at hA hval'
    obtain ⟨v0, v1, d0, d1, p0, p1, rfl, rfl, rfl, h0, h1⟩ := trodAll_two hA
    obtain ⟨us, m, rfl, hul, huf⟩ := arg_struct Try.underlying55 (by kernel_rfl) (by kernel_rfl) (hval' 1 _ _ rfl rfl) h1
    obtain ⟨A, n, c, ws, a1, rfl, hl, hc, hw, hr⟩ : ∃ (A : Option Addr) (n c : Nat) (ws : List Int) (a1 : Int), us = [.slice A n c, .int .i64 a1] ∧ ws.length = n ∧ n ≤ c ∧ (∀ x ∈ ws, (Lit.int .u32 x).wf = true) ∧ Rd W W.heap.size 1 A n (ws.map (Value.int .u32)) := by
      match us, hul with
      | [u0, u1], _ =>
        obtain ⟨y0, t0⟩ := huf 0 _ u0 rfl rfl
        obtain ⟨y1, t1⟩ := huf 1 _ u1 rfl rfl
        obtain ⟨A, n, c, l, e0, hl, hc, _, hw, hr⟩ := open_list (f := fun z => [Value.int .u32 z]) (m := 1) (fun _ => rfl) (by omega) (ok := fun z => (Lit.int .u32 z).wf = true) Try.underlying32 (by kernel_rfl)
          (fun n cs' y hy => by obtain ⟨z, h1, _, h2⟩ := DataW.trod_int Try.underlying33 hy; exact ⟨z, h1, h2⟩) t0
        obtain ⟨z, e1, _, _⟩ := DataW.trod_int Try.underlying3 t1
        simp only [List.cons.injEq, and_true] at e0 e1
        subst e0; subst e1
        rw [map_flat] at hr
        exact ⟨A, n, c, l, z, rfl, hl, hc, hw, hr⟩
    obtain ⟨A2, n2, c2, l, rfl, hl2, _, _, _, hr2⟩ := arg_ints Try.underlying48 Try.underlying22 (by kernel_rfl) (hval' 0 _ _ rfl rfl) h0
    exact drawNext_walk A a1 n c ws W hr hl A2 n2 c2 l hr2 hl2 hw

theorem drawNext_holds : Rows.DrawNextSaid :=
  OpenClaim.holds_of_wide 9 Try.f9 rfl rfl rfl rfl rfl rfl rfl ⟨rfl, rfl, rfl, rfl, rfl⟩ rfl rfl rfl rfl rfl (by kernel_rfl) Try.func9 (by kernel_rfl)
    (of_decide_eq_true (by kernel_rfl)) (by unfold Func.isWrapper; first | (rw [if_pos (by decide +kernel)]; kernel_rfl) | (rw [if_neg (by decide +kernel)]; exact ⟨rfl, rfl⟩))
    (fun os started H enc _ => drawNext_lifted os started H enc)
#print axioms drawNext_holds
end Go.Proofs.Ytikdkljknbgphaa
