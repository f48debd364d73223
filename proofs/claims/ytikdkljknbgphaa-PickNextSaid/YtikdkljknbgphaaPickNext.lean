/-
  The law PickNext holds: whatever the stream and the weights, the call returns true and turns nothing. No condition.
-/
import Derived.Test.YtikdkljknbgphaaRows
import Derived.Test.YtikdkljknbgphaaFrame
import Derived.Test.YtikdkljknbgphaaPickN
namespace Go.Proofs.Ytikdkljknbgphaa
open Go.ChangeShapes Go.WideShapes Go.ChangeAt Go.RowKit HB PickP
set_option linter.unusedVariables false
set_option linter.unusedSimpArgs false

set_option maxRecDepth 100000 in
set_option maxHeartbeats 4000000 in
theorem pickNext_no (A : Option Addr) (at_ er : Int) (n c : Nat) (ws : List Int) (w : World) (hr : Rd w w.heap.size 1 A n (ws.map (Value.int .u32))) (hl : ws.length = n) (A2 : Option Addr) (n2 c2 : Nat) (l : List Int) (hr2 : Rd w w.heap.size 1 A2 n2 (l.map (Value.int .i64))) (hl2 : l.length = n2) (hw2 : ∀ x ∈ l, (Lit.int .i64 x).wf = true) (hn : n ≤ 500) (hn2 : n2 ≤ 200) (ht : total l = (0, er)) (her : er = 21 ∨ er = 22) :
    Calls Try.prog 12 #[Words.st A n c at_, .slice A2 n2 c2] w fun e w' => e = .returned (.bool true) ∧ Below w.heap.size w w' := by
  have dn : decide (500 < n) = false := by simp; omega
  have dn2 : decide (200 < n2) = false := by simp; omega
  have T := hide ht
  have Hl := hide hl
  have Hl2 := hide hl2
  have Hw2 := hide hw2
  have hb : (er == 0) = false := by rw [beq_eq_false_iff_ne]; omega
  have hb' : (er != 0) = true := by rw [bne_iff_ne]; omega
  clear hl hl2 hw2 ht
  go_enter Try.func12, Try.ntmps12
  go_wp2_with fail
  refine (pick_next_no A n c at_ er _ A2 n2 c2 w.heap.size l (hr2.alloc (Nat.le_refl _) _) Hl2.out hn2 Hw2.out (by simp) T.out her).mono ?_; rintro e w1 ⟨rfl, hb1⟩
  have k0 := hold1 hb1 (p := ⟨w.heap.size, 0, none⟩) (v := .slice A n c) (by simp)
  have k1 := hold1 hb1 (p := ⟨w.heap.size, 1, none⟩) (v := .int .i64 at_) (by simp)
  have z0 := sizes (szb (k := w.heap.size) hb1 (by simp))
  have hB := then_ (show Below w.heap.size w _ from by go_grown) hb1 (Nat.le_refl _)
  clear hb1
  have hz := hB.size
  have HR := hide ((hr.below hB).alloc hB.size (Words.box A n c at_))
  have HR2 := hide ((hr2.below hB).alloc hB.size (Words.box A n c at_))
  clear hr hr2
  clear her
  go_wp2_with (first
    | (go_at_call 41; refine (ref_total A2 n2 c2 w.heap.size l _ HR2.out Hl2.out hn2 Hw2.out).mono ?_; rintro e w' ⟨rfl, rfl⟩; simp only [T.out])
    | (go_at_call 25; refine (eqU32 _ _ _ _ _ _ w.heap.size w.heap.size ws ws _ HR.out HR.out (by omega) (by omega)).mono ?_; rintro e w3 ⟨rfl, mm, rfl⟩; simp only [decide_true])
    | (go_at_call 44; refine (pick_alive _).mono ?_; rintro e w9 ⟨rfl, hb9⟩))
  go_ret
  exact ⟨rfl, then_ (below_drewN (hB.alloc z0.2.1 _) _) hb9 (Nat.le_refl _)⟩

set_option maxRecDepth 100000 in
set_option maxHeartbeats 4000000 in
theorem pickNext_dry (A : Option Addr) (at_ : Int) (n c : Nat) (ws : List Int) (w : World) (hr : Rd w w.heap.size 1 A n (ws.map (Value.int .u32))) (hl : ws.length = n) (A2 : Option Addr) (n2 c2 : Nat) (l : List Int) (hr2 : Rd w w.heap.size 1 A2 n2 (l.map (Value.int .i64))) (hl2 : l.length = n2) (hw2 : ∀ x ∈ l, (Lit.int .i64 x).wf = true) (hn : n ≤ 500) (hn2 : n2 ≤ 200) (ht : total l = (sum l, 0)) (hd : at_ < 0 ∨ (n : Int) ≤ at_) :
    Calls Try.prog 12 #[Words.st A n c at_, .slice A2 n2 c2] w fun e w' => e = .returned (.bool true) ∧ Below w.heap.size w w' := by
  have dn : decide (500 < n) = false := by simp; omega
  have dn2 : decide (200 < n2) = false := by simp; omega
  have T := hide ht
  have Hl := hide hl
  have Hl2 := hide hl2
  have Hw2 := hide hw2
  have D := hide hd
  have hor : at_ < 0 ∨ (0 ≤ at_ ∧ (n : Int) ≤ at_) := by omega
  have Hor := hide hor
  clear hl hl2 hw2 ht hd hor
  go_enter Try.func12, Try.ntmps12
  go_wp2_with fail
  refine (pick_next_dry A n c at_ (by omega) _ A2 n2 c2 w.heap.size l (hr2.alloc (Nat.le_refl _) _) Hl2.out hn2 Hw2.out (by simp) T.out D.out).mono ?_; rintro e w1 ⟨rfl, hb1⟩
  have k0 := hold1 hb1 (p := ⟨w.heap.size, 0, none⟩) (v := .slice A n c) (by simp)
  have k1 := hold1 hb1 (p := ⟨w.heap.size, 1, none⟩) (v := .int .i64 at_) (by simp)
  have z0 := sizes (szb (k := w.heap.size) hb1 (by simp))
  have hB := then_ (show Below w.heap.size w _ from by go_grown) hb1 (Nat.le_refl _)
  clear hb1
  have hz := hB.size
  have HR := hide ((hr.below hB).alloc hB.size (Words.box A n c at_))
  have HR2 := hide ((hr2.below hB).alloc hB.size (Words.box A n c at_))
  clear hr hr2
  rcases Hor.out with h | ⟨h, h'⟩
  all_goals
    clear D Hor
    go_wp2_with (first
      | (go_at_call 41; refine (ref_total A2 n2 c2 w.heap.size l _ HR2.out Hl2.out hn2 Hw2.out).mono ?_; rintro e w' ⟨rfl, rfl⟩; simp only [T.out])
      | (go_at_call 25; refine (eqU32 _ _ _ _ _ _ w.heap.size w.heap.size ws ws _ HR.out HR.out (by omega) (by omega)).mono ?_; rintro e w3 ⟨rfl, mm, rfl⟩; simp only [decide_true])
      | (go_at_call 44; refine (pick_alive _).mono ?_; rintro e w9 ⟨rfl, hb9⟩))
    go_ret
    exact ⟨rfl, then_ (below_drewN (hB.alloc z0.2.1 _) _) hb9 (Nat.le_refl _)⟩

set_option maxRecDepth 100000 in
set_option maxHeartbeats 4000000 in
theorem pickNext_yes (A : Option Addr) (k : Nat) (n c : Nat) (ws : List Int) (w : World) (hr : Rd w w.heap.size 1 A n (ws.map (Value.int .u32))) (hl : ws.length = n) (A2 : Option Addr) (n2 c2 : Nat) (l : List Int) (hr2 : Rd w w.heap.size 1 A2 n2 (l.map (Value.int .i64))) (hl2 : l.length = n2) (hw2 : ∀ x ∈ l, (Lit.int .i64 x).wf = true) (hn : n ≤ 500) (hn2 : n2 ≤ 200) (hk : k < n) (hw : ∀ x ∈ ws, (Lit.int .u32 x).wf = true) (hpos : ∀ x ∈ l, 0 ≤ x) (ht : total l = (sum l, 0)) (hs : 0 < sum l) (hs1 : sum l ≤ 2147483648) :
    Calls Try.prog 12 #[Words.st A n c k, .slice A2 n2 c2] w fun e w' => e = .returned (.bool true) ∧ Below w.heap.size w w' := by
  obtain ⟨b, off, x, rfl, hb, hg, c0⟩ := hr.int_at hl hk
  obtain ⟨x0, x1⟩ := bounds_u32 (hw x (List.mem_of_getElem? hg))
  have i0 : (0 : Int) ≤ (k : Int) := by omega
  have i1 : (k : Int) < (n : Int) := by omega
  have dn : decide (500 < n) = false := by simp; omega
  have dn2 : decide (200 < n2) = false := by simp; omega
  have T := hide ht
  have Hl := hide hl
  have Hl2 := hide hl2
  have Hw2 := hide hw2
  have C0 := hide c0
  have Hp := hide hpos
  clear hl hl2 hw2 hw ht hpos hg
  go_enter Try.func12, Try.ntmps12
  go_wp2_with fail
  refine (pick_next_yes b off n c k x (by omega) _ A2 n2 c2 w.heap.size l (hr2.alloc (Nat.le_refl _) _) Hl2.out hn2 Hw2.out (by simp) hk (by simp [go_sem, C0.out, sizes hb]) x0 x1 Hp.out T.out hs hs1).mono ?_; rintro e w1 ⟨j, rfl, hj, hb1⟩
  have Hj := hide hj
  clear hj c0
  have k0 := hold1 hb1 (p := ⟨w.heap.size, 0, none⟩) (v := .slice (some ⟨b, off, none⟩) n c) (by simp)
  have k1 := hold1 hb1 (p := ⟨w.heap.size, 1, none⟩) (v := .int .i64 k) (by simp)
  have z0 := sizes (szb (k := w.heap.size) hb1 (by simp))
  have hB := then_ (show Below w.heap.size w _ from by go_grown) hb1 (Nat.le_refl _)
  clear hb1
  have hz := hB.size
  have HR := hide ((hr.below hB).alloc hB.size (Words.box (some ⟨b, off, none⟩) n c ((k : Int) + 1)))
  have HR2 := hide ((hr2.below hB).alloc hB.size (Words.box (some ⟨b, off, none⟩) n c ((k : Int) + 1)))
  clear hr hr2
  have q4 := (hB.cell (p := ⟨b, off + k, none⟩) hb).trans C0.out
  have bz := sizes (Nat.lt_of_lt_of_le hb hz)
  go_wp2_with (go_at_call 41; refine (ref_total A2 n2 c2 w.heap.size l _ HR2.out Hl2.out hn2 Hw2.out).mono ?_; rintro e w' ⟨rfl, rfl⟩; simp only [T.out])
  refine (ref_of A2 n2 c2 w.heap.size l x _ HR2.out Hl2.out hn2 Hw2.out x0 x1 Hp.out T.out hs hs1).mono ?_; rintro e w' ⟨j', rfl, hj', rfl⟩
  obtain rfl := Spot.one Hp.out Hj.out hj'
  clear hj'
  go_wp2_with (first
    | (go_at_call 25; refine (eqU32 _ _ _ _ _ _ w.heap.size w.heap.size ws ws _ HR.out HR.out (by omega) (by omega)).mono ?_; rintro e w3 ⟨rfl, mm, rfl⟩; simp only [decide_true])
    | (go_at_call 44; refine (pick_alive _).mono ?_; rintro e w9 ⟨rfl, hb9⟩))
  go_ret
  exact ⟨rfl, then_ (below_drewN (hB.alloc z0.2.1 _) _) hb9 (Nat.le_refl _)⟩

theorem pickNext_walk (A : Option Addr) (at_ : Int) (n c : Nat) (ws : List Int) (w : World) (hr : Rd w w.heap.size 1 A n (ws.map (Value.int .u32))) (hl : ws.length = n) (A2 : Option Addr) (n2 c2 : Nat) (l : List Int) (hr2 : Rd w w.heap.size 1 A2 n2 (l.map (Value.int .i64))) (hl2 : l.length = n2) (hw2 : ∀ x ∈ l, (Lit.int .i64 x).wf = true) (hw : ∀ x ∈ ws, (Lit.int .u32 x).wf = true) :
    Calls Try.prog 12 #[Words.st A n c at_, .slice A2 n2 c2] w fun e w' => e = .returned (.bool true) ∧ Below w.heap.size w w' := by
  by_cases hbig : 200 < n2 ∨ 500 < n
  · have hor : 200 < n2 ∨ (n2 ≤ 200 ∧ 500 < n) := by omega
    clear hl hl2 hw2 hbig
    go_enter Try.func12, Try.ntmps12
    rcases hor with h | ⟨h, h'⟩
    all_goals
      go_wp2_with fail
      go_ret
      exact ⟨rfl, by go_grown⟩
  · rcases total_cases l with ⟨er, ht, her⟩ | ⟨hpos, ht, hs, hs1⟩
    · exact pickNext_no A at_ er n c ws w hr hl A2 n2 c2 l hr2 hl2 hw2 (by omega) (by omega) ht her
    · by_cases hd : at_ < 0 ∨ (n : Int) ≤ at_
      · exact pickNext_dry A at_ n c ws w hr hl A2 n2 c2 l hr2 hl2 hw2 (by omega) (by omega) ht hd
      · obtain ⟨k, rfl⟩ := Int.eq_ofNat_of_zero_le (show 0 ≤ at_ by omega)
        exact pickNext_yes A k n c ws w hr hl A2 n2 c2 l hr2 hl2 hw2 (by omega) (by omega) (by omega) hw hpos ht hs hs1

set_option maxRecDepth 100000 in
theorem pickNext_lifted (os : Os) (started : os.Started) (H : Type) (enc : TypeId × Value → H) :
    ReturnsInHanded {} Try.checked os 12 .any (Rows.pickNextSpec.pre6 enc Try.prog Try.f12 [] false) (Rows.pickNextSpec.post enc Try.prog Try.f12 false true false false) := by
  refine law_lifted (C := Try.checked) Try.own started (by kernel_rfl) Try.func12
    (ChangeSpec.witness6 (enc := enc) (C := Try.checked) false ⟨#[], #[.agg #[.slice none 0 0, .int .i64 0], .slice none 0 0], []⟩ 8 (by kernel_rfl) (by kernel_rfl) (by kernel_rfl) (by kernel_rfl))
    Try.laidOut (show ∀ t ∈ [55, 61], Try.prog.readableRec t = true ∧ t < Try.prog.types.size from by
      intro t ht; simp only [List.mem_cons, List.not_mem_nil, or_false] at ht; rcases ht with rfl | rfl <;> exact ⟨by kernel_rfl, of_decide_eq_true (by kernel_rfl)⟩) (tb := 4) (by kernel_rfl) Try.underlying4 rfl (fun ds hd => ?_) ?_
  · match ds, hd with
    | [_, _], _ => rfl
  · intro W base args ds p hval hA
    have hval' : ∀ (j : Nat) t v, Try.f12.params[j]? = some t → args[j]? = some v → Value.okWide Try.prog W .any base t v := hval
    rw [Try.params12] at hA hval'
    obtain ⟨v0, v1, d0, d1, p0, p1, rfl, rfl, rfl, h0, h1⟩ := trodAll_two hA
    obtain ⟨us, m, rfl, hul, huf⟩ := arg_struct Try.underlying55 (by kernel_rfl) (by kernel_rfl) (hval' 0 _ _ rfl rfl) h0
    obtain ⟨A, n, c, ws, a1, rfl, hl, hc, hw, hr⟩ : ∃ (A : Option Addr) (n c : Nat) (ws : List Int) (a1 : Int), us = [.slice A n c, .int .i64 a1] ∧ ws.length = n ∧ n ≤ c ∧ (∀ x ∈ ws, (Lit.int .u32 x).wf = true) ∧ Rd W W.heap.size 1 A n (ws.map (Value.int .u32)) := by
      match us, hul with
      | [u0, u1], _ =>
        obtain ⟨y0, t0⟩ := huf 0 _ u0 rfl rfl
        obtain ⟨y1, t1⟩ := huf 1 _ u1 rfl rfl
        obtain ⟨A, n, c, l, e0, hl, hc, _, hw, hr⟩ := open_list (f := fun z => [Value.int .u32 z]) (m := 1) (fun _ => rfl) (by omega) (ok := fun z => (Lit.int .u32 z).wf = true) Try.underlying32 (by kernel_rfl)
          (fun n cs' y hy => by obtain ⟨z, h1, _, h2⟩ := DataW.trod_int Try.underlying33 hy; exact ⟨z, h1, h2⟩) t0
        obtain ⟨z, e1, _, _⟩ := DataW.trod_int Try.underlying3 t1
        simp only [List.cons.injEq, and_true] at e0 e1
        subst e0; subst e1
        rw [map_flat] at hr
        exact ⟨A, n, c, l, z, rfl, hl, hc, hw, hr⟩
    obtain ⟨A2, n2, c2, l, rfl, hl2, _, _, hw2, hr2⟩ := arg_ints Try.underlying61 Try.underlying3 (by kernel_rfl) (hval' 1 _ _ rfl rfl) h1
    exact pickNext_walk A a1 n c ws W hr hl A2 n2 c2 l hr2 hl2 hw2 hw

theorem pickNext_holds : Rows.PickNextSaid :=
  OpenClaim.holds_of_wide 12 Try.f12 rfl rfl rfl rfl rfl rfl rfl ⟨rfl, rfl, rfl, rfl, rfl⟩ rfl rfl rfl rfl rfl (by kernel_rfl) Try.func12 (by kernel_rfl)
    (of_decide_eq_true (by kernel_rfl)) (by unfold Func.isWrapper; first | (rw [if_pos (by decide +kernel)]; kernel_rfl) | (rw [if_neg (by decide +kernel)]; exact ⟨rfl, rfl⟩))
    (fun os started H enc _ => pickNext_lifted os started H enc)
#print axioms pickNext_holds
end Go.Proofs.Ytikdkljknbgphaa
