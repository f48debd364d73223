/-
  The law TapePuts holds: whatever the log, the call returns true and turns nothing. No condition.
-/
import Derived.Test.YtknmpfimnbenjaaRows
import Derived.Test.YtknmpfimnbenjaaFrame
import Derived.Test.YtknmpfimnbenjaaTapeRefPut
import Derived.Test.YtknmpfimnbenjaaTapeSame
import Derived.Test.YtknmpfimnbenjaaTapeGreat
import Derived.Test.YtknmpfimnbenjaaTapeAlive
import Derived.ChangeArms
namespace Go.Proofs.Ytknmpfimnbenjaa
open Go.ChangeShapes Go.WideShapes Go.ChangeAt Go.RowKit HB PackP TapeP
set_option linter.unusedVariables false
set_option linter.unusedSimpArgs false

theorem put_in : ∀ n, In (put n) := by
  intro n
  induction n using Nat.strongRecOn with
  | ind n ih =>
    by_cases h : n < 128
    · rw [put_small h]; intro x hx; simp at hx; omega
    · rw [put_big h]
      intro x hx
      rcases List.mem_cons.1 hx with hx | hx
      · subst hx; omega
      · exact ih _ (by omega) x hx
theorem in_app {a b : List Int} (ha : In a) (hb : In b) : In (a ++ b) := fun x hx => by
  rcases List.mem_append.1 hx with h | h
  · exact ha x h
  · exact hb x h
theorem in_flat {α : Type} {f : α → List Int} (h : ∀ x, In (f x)) (l : List α) : In (l.flatMap f) := fun x hx => by
  obtain ⟨y, _, hy⟩ := List.mem_flatMap.1 hx
  exact h y x hy
theorem in_pB (x : Lo) : In (76 :: pB x) := by
  have h : In (pB x) := in_app (put_in _) (in_app (put_in _) (in_app (in_flat (fun t => in_flat (fun _ => put_in _) _) _) (in_app (put_in _) (in_flat (fun c => in_app (put_in _) (in_flat (fun g => in_app (in_flat (fun _ => put_in _) _) (put_in _)) _)) _))))
  intro y hy
  rcases List.mem_cons.1 hy with hy | hy
  · subst hy; omega
  · exact h y hy

theorem flat_le {α : Type} (f : α → List Int) (K : Nat) : ∀ l : List α, (∀ x ∈ l, (f x).length ≤ K) → (l.flatMap f).length ≤ l.length * K
  | [], _ => by simp
  | x :: l, h => by
    have h1 := flat_le f K l (fun y hy => h y (List.mem_cons_of_mem _ hy))
    have h2 := h x List.mem_cons_self
    simp only [List.flatMap_cons, List.length_append, List.length_cons, Nat.add_mul, Nat.one_mul]
    omega
theorem pB_len {x : Lo} (hok : x.ok) (h1 : x.ts.length ≤ 100) (h2 : x.ls.length ≤ 20) (h3 : ∀ l ∈ x.ls, l.length ≤ 100) : (pB x).length ≤ 900000 := by
  have a1 := put_le (fold_lt hok.u.1 hok.u.2)
  have a2 := put_le (n := x.ts.length) (by omega)
  have a3 := put_le (n := x.ls.length) (by omega)
  have a4 := flat_le pT 70 x.ts (fun t ht => by have := e1_len t.ns (hok.ts t ht); simpa [pT, Tp.ns] using this)
  have a5 := flat_le pC 4010 x.ls (fun l hl => by
    have b1 := h3 l hl
    have b2 := put_le (n := l.length) (by omega)
    have b3 := flat_le pL 40 l (fun g hg => by
      have d1 := e1_len g.ns (hok.ls l hl g hg)
      have d2 := put_le (n := dn g.o) (by unfold dn; split <;> omega)
      have d3 : g.ns.length = 3 := rfl
      simp only [pL, List.length_append]; omega)
    have b4 := Nat.mul_le_mul_right 40 b1
    simp only [pC, List.length_append]; omega)
  have a6 := Nat.mul_le_mul_right 70 h1
  have a7 := Nat.mul_le_mul_right 4010 h2
  unfold pB
  simp only [List.length_append]; omega
theorem read_back (A : Option Addr) (N c B : Nat) (x : Lo) (w : World) (hr : Rd w B 1 A N ((76 :: pB x).map (Value.int .u8))) (hB : B ≤ w.heap.size) (hl : (76 :: pB x).length = N) (hc : N ≤ c) (hN : N ≤ 1000000) (hok : x.ok) (h1 : x.ts.length ≤ 100) (h2 : x.ls.length ≤ 20) (h3 : ∀ l ∈ x.ls, l.length ≤ 100) :
    Calls Try.prog 32 #[.slice A N c] w fun e w' => (∃ A1 c1 A2 c2, e = .returned (.tuple #[.agg #[.slice A1 x.ts.length c1, .slice A2 x.ls.length c2, .int .i64 x.u], .int .i64 0]) ∧ Trs w' w'.heap.size A1 x.ts.length x.ts ∧ Lgs w' w'.heap.size A2 x.ls.length x.ls) ∧ Below w.heap.size w w' := by
  have hp := log_put hok (by omega) (by omega) (fun l hl => by have := h3 l hl; omega)
  refine (tape_read A N c B (76 :: pB x) w hr hB hl hc hN (in_pB x)).mono ?_
  rintro e w' ⟨hb, h⟩
  refine ⟨?_, hb⟩
  rcases h with ⟨b', hb', -, -, A1, n1, c1, A2, n2, c2, rfl, hT, hL, -, -⟩ | ⟨hng, -⟩
  · injection hb' with _ hb'
    subst hb'
    rw [hp.1] at hT hL ⊢
    have e1' := hT.2
    have e2' := hL.len
    subst e1'
    subst e2'
    exact ⟨_, _, _, _, rfl, hT, hL⟩
  · exact absurd ⟨pB x, rfl, by rw [hp.2], by rw [hp.2]⟩ hng
set_option maxRecDepth 100000 in
set_option maxHeartbeats 4000000 in
theorem tapePuts_all (A A' : Option Addr) (n c n' c' : Nat) (x : Lo) (W : World) (hT : Trs W W.heap.size A n x.ts) (hL : Lgs W W.heap.size A' n' x.ls) (hok : x.ok) :
    Calls Try.prog 6 #[.agg #[.slice A n c, .slice A' n' c', .int .i64 x.u]] W fun e w' => e = .returned (.bool true) ∧ Below W.heap.size W w' := by
  have HT := hide hT
  have HL := hide hL
  have HOK := hide hok
  have e1' := hT.2
  have e2' := hL.len
  have HGR := hide (law_great A A' n c n' c' W.heap.size x.u x.ls (W.alloc (.cells #[.slice A n c, .slice A' n' c', .int .i64 x.u] 57)) (hL.below ((Below.refl _ _).alloc (Nat.le_refl _) _)) (by simp))
  have HBX := hide (Lc.new W (.slice A n c) (.slice A' n' c') (.int .i64 x.u) 57)
  clear hT hL hok
  go_enter Try.func6, Try.ntmps6
  go_wp2_with fail
  refine (HGR.out).mono ?_
  rintro e w1 ⟨⟨b, rfl, hbd⟩, hb1⟩
  have hBX1 := HBX.out.below hb1 (by simp)
  have hB1 := ((Below.refl W.heap.size W).alloc (Nat.le_refl _) (.cells #[.slice A n c, .slice A' n' c', .int .i64 x.u] 57)).trans (hb1.mono (by simp))
  have hz1 : W.heap.size < w1.heap.size := by have h := hb1.size; rw [World.size_alloc] at h; exact h
  have HB1 := hide hB1
  clear HGR HBX hb1 hB1
  cases b with
  | true =>
    go_wp2_with fail
    go_ret
    exact ⟨rfl, HB1.out⟩
  | false =>
    obtain ⟨hn, hn', hrow⟩ := hbd rfl
    have HROW := hide hrow
    have HPL := hide (pB_len HOK.out (by omega) (by omega) hrow)
    have HRP := hide (ref_put37 A A' n c n' c' W.heap.size x w1 (HT.out.below HB1.out) (HL.out.below HB1.out) HB1.out.size HOK.out HPL.out (by omega) (by omega))
    obtain ⟨k0, k1, k2⟩ := hBX1
    have HK := hide (Lc.mk k0 k1 k2)
    clear hbd hrow
    go_wp2_with fail
    refine (HRP.out).mono ?_
    rintro e w2 ⟨⟨v2, rfl, ho2⟩, hb2⟩
    obtain ⟨A3, c3, rfl, hc3, hr3⟩ := Own.shape ho2
    rw [map_flat] at hr3
    obtain ⟨N, hN⟩ : ∃ N, N = (76 :: pB x).length := ⟨_, rfl⟩
    have HN := hide hN
    have hN1 : N ≤ 1000000 := by have := HPL.out; rw [hN, List.length_cons]; omega
    rw [← hN] at hr3 hc3 ⊢
    have HR3 := hide hr3
    have hK2 := HK.out.below hb2 hz1
    have HB2 := hide (HB1.out.trans (hb2.mono (by omega)))
    have hz2 : W.heap.size < w2.heap.size := Nat.lt_of_lt_of_le hz1 hb2.size
    have HRD := hide (read_back A3 N c3 w2.heap.size x w2 hr3 (Nat.le_refl _) hN.symm hc3 hN1 HOK.out (by omega) (by omega) HROW.out)
    rw [e1', e2'] at HRD
    have HK2 := hide hK2
    clear hr3 ho2 hb2 HRP HK k0 k1 k2 hN hK2
    go_wp2_with fail
    refine (HRD.out).mono ?_
    rintro e w3 ⟨⟨A1, c1, A2, c2, rfl, hT3, hL3⟩, hb3⟩
    have HB3 := hide (HB2.out.trans (hb3.mono (by omega)))
    have hz3 : W.heap.size < w3.heap.size := Nat.lt_of_lt_of_le hz2 hb3.size
    have hbA := (Below.refl w3.heap.size w3).alloc (Nat.le_refl _) (.cells #[.slice A1 n c1, .slice A2 n' c2, .int .i64 x.u] 57)
    have hK3 := (HK2.out.below hb3 hz2).below hbA hz3
    obtain ⟨k0, k1, k2⟩ := hK3
    have HK3 := hide (Lc.mk k0 k1 k2)
    have HJ3 := hide (Lc.new w3 (.slice A1 n c1) (.slice A2 n' c2) (.int .i64 x.u) 57)
    have HT3 := hide (hT3.below hbA)
    have HL3 := hide (hL3.below hbA)
    have HB4 := hide (HB3.out.trans (hbA.mono (by omega)))
    have HR4 := hide (((HR3.out.below hb3).mono hb3.size).below hbA)
    have HTP := hide (tape_put A A' n c n' c' W.heap.size x (w3.alloc (.cells #[.slice A1 n c1, .slice A2 n' c2, .int .i64 x.u] 57)) (HT.out.below HB4.out) (HL.out.below HB4.out) HB4.out.size HOK.out HPL.out (by omega) (by omega))
    clear hT3 hL3 hb3 hbA HRD HK2
    go_wp2_with (first
      | (go_at_call 35; refine (law_alive37 _).mono ?_; rintro e w7 ⟨rfl, hb7⟩)
      | (go_at_call 34; refine (HSM.out _).mono ?_; rintro e w6 ⟨rfl, hb6⟩)
      | (go_at_call 13; refine (HEQ.out).mono ?_; rintro e w9 ⟨rfl, m, rfl⟩)
      | (go_at_call 33; refine (HTP.out).mono ?_; rintro e w5 ⟨⟨v5, rfl, ho5⟩, hb5⟩; obtain ⟨A5, c5, rfl, -, hr5⟩ := Own.shape ho5; rw [map_flat] at hr5; rw [← HN.out] at hr5 ⊢; obtain ⟨p0, p1, p2⟩ := HK3.out.below hb5 (by simp; omega); obtain ⟨j0, j1, j2⟩ := HJ3.out.below hb5 (by simp); have HB5 := hide (HB4.out.trans (hb5.mono HB4.out.size)); have HEQ := hide (eqB A5 A3 N N c5 c3 w5.heap.size (w3.heap.size) (76 :: pB x) (76 :: pB x) w5 hr5 (HR4.out.below (hb5.mono (by simp))) (by omega) (by omega)); have HSM := hide (fun (m : Nat) => ref_same A1 A2 A A' n c1 n' c2 c c' w5.heap.size x (w5.drewN m) (((HT3.out.mono (by simp)).below hb5 |>.mono hb5.size).below (below_drewN (Below.refl _ _) m)) (((HL3.out.mono (by simp)).below hb5 |>.mono hb5.size).below (below_drewN (Below.refl _ _) m)) (((HT.out.below HB5.out).mono HB5.out.size).below (below_drewN (Below.refl _ _) m)) (((HL.out.below HB5.out).mono HB5.out.size).below (below_drewN (Below.refl _ _) m)) (Nat.le_refl _) (by omega) (by omega) (fun l hl => by have := HROW.out l hl; omega)); clear hr5 ho5 hb5))
    go_ret
    have h6 := (below_drewN HB5.out m).trans (hb6.mono (by have := HB5.out.size; simpa using this))
    exact ⟨rfl, h6.trans (hb7.mono h6.size)⟩
set_option maxRecDepth 100000 in
theorem trip_of {H : Type} {enc : TypeId × Value → H} {w : World} {base : Nat} {spare : Nat → Bool} {held : Bool} (n : Nat) (cs : List Value) (y : DataW H × List MemPlace) (h : DataW.trod enc Try.prog w base spare held n 100 cs = some y) :
    ∃ x : Tp, cs = tc x ∧ x.ok := by
  obtain ⟨zs, rfl, hlen, hwf⟩ := struct_ints (k := .i64) Try.underlying100 (by kernel_rfl) (by kernel_rfl) (by kernel_rfl) h
  match zs, hlen with
  | [a, b, c, d, e, f, g], _ => exact ⟨⟨a, b, c, d, e, f, g⟩, rfl, fun x hx => bounds_i64 (hwf x hx)⟩
theorem struct_each {H : Type} {enc : TypeId × Value → H} {P : Program} {w : World} {base : Nat} {spare : Nat → Bool} {held : Bool} {t : TypeId} {fs : Array Field} {n : Nat} {cs : List Value} {y : DataW H × List MemPlace} (ht : P.underlying t = some (.struct fs)) (hone : Go.Deep.oneCellFields P fs = true) (hC : P.cellsOf t = fs.size)
    (h : DataW.trod enc P w base spare held n t cs = some y) : cs.length = fs.size ∧ ∃ m, ∀ (i : Nat) (f : Field) (u : Value), fs[i]? = some f → cs[i]? = some u → ∃ y, DataW.trod enc P w base spare held m f.type [u] = some y := by
  obtain ⟨xs, n', _, _, hlen, hxl, hg⟩ := DataW.trod_struct ht h
  have hcl : cs.length = fs.size := hlen.trans hC
  refine ⟨hcl, n', fun i f u hi hu => ?_⟩
  have hif : i < fs.size := (Array.getElem?_eq_some_iff.1 hi).1
  obtain ⟨ho, hk1⟩ := Go.Deep.hone_of hone i f hi
  have h1 := hg i f hi
  rw [ho, hk1] at h1
  have hone' : (cs.drop i).take 1 = [u] := by
    rw [List.drop_eq_getElem_cons (by omega)]
    rw [List.getElem?_eq_getElem (by omega)] at hu
    simp only [Option.some.injEq] at hu
    rw [hu]; rfl
  rw [hone', List.getElem?_eq_getElem (by omega)] at h1
  exact ⟨_, h1⟩
set_option maxRecDepth 100000 in
theorem leg_of {H : Type} {enc : TypeId × Value → H} {w : World} {base : Nat} {spare : Nat → Bool} {held : Bool} (n : Nat) (cs : List Value) (y : DataW H × List MemPlace) (h : DataW.trod enc Try.prog w base spare held n 102 cs = some y) :
    ∃ x : Lg, cs = lc x ∧ x.ok := by
  obtain ⟨hlen, m, hf⟩ := struct_each Try.underlying102 (by kernel_rfl) (by kernel_rfl) h
  match cs, hlen with
  | [u0, u1, u2, u3], _ =>
    obtain ⟨y0, t0⟩ := hf 0 _ u0 rfl rfl
    obtain ⟨y1, t1⟩ := hf 1 _ u1 rfl rfl
    obtain ⟨y2, t2⟩ := hf 2 _ u2 rfl rfl
    obtain ⟨y3, t3⟩ := hf 3 _ u3 rfl rfl
    obtain ⟨a, e0, _, w0⟩ := DataW.trod_int Try.underlying3 t0
    obtain ⟨b, e1, _, w1⟩ := DataW.trod_int Try.underlying3 t1
    obtain ⟨c, e2, _, w2⟩ := DataW.trod_int Try.underlying3 t2
    obtain ⟨d, e3, _⟩ := DataW.trod_bool Try.underlying4 t3
    simp only [List.cons.injEq, and_true] at e0 e1 e2 e3
    subst e0; subst e1; subst e2; subst e3
    refine ⟨⟨a, b, c, d⟩, rfl, fun x hx => ?_⟩
    simp only [Lg.ns, List.mem_cons, List.not_mem_nil, or_false] at hx
    rcases hx with rfl | rfl | rfl
    · exact bounds_i64 w0
    · exact bounds_i64 w1
    · exact bounds_i64 w2
set_option maxRecDepth 100000 in
theorem arg_log {H : Type} {enc : TypeId × Value → H} {w : World} {base : Nat} {spare : Nat → Bool} {held : Bool} {r : Reach} {b0 : Nat} {v : Value} {d : DataW H} {ps : List MemPlace}
    (hv : Value.okWide Try.prog w r b0 57 v) (hd : DataW.Trod enc Try.prog w base spare held 57 v d ps) :
    ∃ (A A' : Option Addr) (n c n' c' : Nat) (x : Lo), v = .agg #[.slice A n c, .slice A' n' c', .int .i64 x.u] ∧ Trs w w.heap.size A n x.ts ∧ Lgs w w.heap.size A' n' x.ls ∧ x.ok := by
  obtain ⟨us, m, rfl, hul, huf⟩ := arg_struct Try.underlying57 (by kernel_rfl) (by kernel_rfl) hv hd
  match us, hul with
  | [u0, u1, u2], _ =>
    obtain ⟨y0, t0⟩ := huf 0 _ u0 rfl rfl
    obtain ⟨y1, t1⟩ := huf 1 _ u1 rfl rfl
    obtain ⟨y2, t2⟩ := huf 2 _ u2 rfl rfl
    obtain ⟨A, n, c, ts, e0, hl, hc, _, hw, hr⟩ := open_list (f := tc) (m := 7) (fun _ => rfl) (by omega) (ok := Tp.ok) Try.underlying54 (by kernel_rfl) trip_of t0
    obtain ⟨A', n', c', R, e1, hl', hc', _, hw', hr'⟩ := open_list (f := rc) (m := 1) (fun _ => rfl) (by omega) (ok := fun r : RowL => (Rd w w.heap.size 4 r.A r.n (r.l.flatMap lc) ∧ r.l.length = r.n ∧ r.n ≤ r.c) ∧ ∀ g ∈ r.l, g.ok) Try.underlying55 (by kernel_rfl)
      (fun n cs' y hy => by
        obtain ⟨A, n, c, l, e0, hl, hc, _, hw, hr⟩ := open_list (f := lc) (m := 4) (fun _ => rfl) (by omega) (ok := Lg.ok) Try.underlying97 (by kernel_rfl) leg_of hy
        subst e0
        exact ⟨⟨A, n, c, l⟩, rfl, ⟨hr, hl, hc⟩, hw⟩) t1
    obtain ⟨z, e2, _, wz⟩ := DataW.trod_int Try.underlying3 t2
    simp only [List.cons.injEq, and_true] at e0 e1 e2
    subst e0; subst e1; subst e2
    refine ⟨A, A', n, c, n', c', ⟨ts, R.map RowL.l, z⟩, rfl, ⟨hr, hl⟩, ⟨R, hr', hl', fun r hr => (hw' r hr).1, rfl⟩, ⟨bounds_i64 wz, hw, fun l hl => ?_⟩⟩
    obtain ⟨r, hrm, rfl⟩ := List.mem_map.1 hl
    exact (hw' r hrm).2

set_option maxRecDepth 100000 in
theorem tapePuts_lifted (os : Os) (started : os.Started) (H : Type) (enc : TypeId × Value → H) :
    ReturnsInHanded {} Try.checked os 6 .any (Rows.tapePutsSpec.pre6 enc Try.prog Try.f6 [] false) (Rows.tapePutsSpec.post enc Try.prog Try.f6 false true false false) := by
  refine law_lifted (C := Try.checked) Try.own started (by kernel_rfl) Try.func6
    (ChangeSpec.witness6 (enc := enc) (C := Try.checked) false ⟨#[], #[.agg #[.slice none 0 0, .slice none 0 0, .int .i64 0]], []⟩ 8 (by kernel_rfl) (by kernel_rfl) (by kernel_rfl) (by kernel_rfl))
    Try.laidOut (show ∀ t ∈ [57], Try.prog.readableRec t = true ∧ t < Try.prog.types.size from by
      intro t ht; simp only [List.mem_cons, List.not_mem_nil, or_false] at ht; subst ht <;> exact ⟨by kernel_rfl, of_decide_eq_true (by kernel_rfl)⟩) (tb := 4) (by kernel_rfl) Try.underlying4 rfl (fun ds hd => ?_) ?_
  · match ds, hd with
    | [_], _ => rfl
  · intro W base args ds p hval hA
    have hval' : ∀ (j : Nat) t v, Try.f6.params[j]? = some t → args[j]? = some v → Value.okWide Try.prog W .any base t v := hval
    rw [Try.params6] at hA hval'
    obtain ⟨v0, d0, rfl, rfl, h0⟩ := trodAll_one hA
    obtain ⟨A, A', n, c, n', c', x, rfl, hT, hL, hok⟩ := arg_log (hval' 0 _ _ rfl rfl) h0
    exact tapePuts_all A A' n c n' c' x W hT hL hok

theorem tapePuts_holds : Rows.TapePutsSaid :=
  OpenClaim.holds_of_wide 6 Try.f6 rfl rfl rfl rfl rfl rfl rfl ⟨rfl, rfl, rfl, rfl, rfl⟩ rfl rfl rfl rfl rfl (by kernel_rfl) Try.func6 (by kernel_rfl)
    (of_decide_eq_true (by kernel_rfl)) (by unfold Func.isWrapper; first | (rw [if_pos (by decide +kernel)]; kernel_rfl) | (rw [if_neg (by decide +kernel)]; exact ⟨rfl, rfl⟩))
    (fun os started H enc _ => tapePuts_lifted os started H enc)
#print axioms tapePuts_holds
end Go.Proofs.Ytknmpfimnbenjaa
