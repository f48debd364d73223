/-
  The law PackPuts holds: whatever the bytes, the number and the text, the call returns true and turns nothing. No condition.
-/
import Derived.Test.YtknmpfimnbenjaaRows
import Derived.Test.YtknmpfimnbenjaaFrame
import Derived.Test.YtknmpfimnbenjaaPackAlive
import Derived.ChangeMaps5
namespace Go.Proofs.Ytknmpfimnbenjaa
open Go.ChangeShapes Go.WideShapes Go.ChangeAt Go.RowKit HB PackP
set_option linter.unusedVariables false
set_option linter.unusedSimpArgs false

set_option maxRecDepth 100000 in
set_option maxHeartbeats 8000000 in
theorem packPuts_walk (A : Option Addr) (n c : Nat) (l : List Int) (N : Int) (s : ByteArray) (w : World) (hr : Rd w w.heap.size 1 A n (l.map (Value.int .u8))) (hl : l.length = n) (hc : n ≤ c) (hn : n ≤ 300) (hs : s.size ≤ 300) (h0 : -9223372036854775808 ≤ N) (h1 : N ≤ 9223372036854775807) :
    Calls Try.prog 3 #[.slice A n c, .int .i64 N, .string s] w fun e w' => e = .returned (.bool true) ∧ Below w.heap.size w w' := by
  have hu := fold_lt h0 h1
  have huf := unfold_fold N
  have hp1 := put_ten hu
  have hp2 := put_ten (n := s.size) (by omega)
  have hl0 : l.length ≤ 1000000000 := by omega
  have hn0 : n ≤ 1000000000 := by omega
  obtain ⟨U, hU⟩ : ∃ U, U = fold N := ⟨_, rfl⟩
  have HF1 := fun W => ref_fold N W h0 h1
  have HF2 := fun W => pack_fold N W h0 h1
  have HU := fun W => pack_unfold U W (by rw [hU]; exact hu)
  have HI := fun (v : Value) (base : Nat) (W : World) (h : OwnB W base v l) (hB : base ≤ W.heap.size) => pack_putInt v l N base W h hB (by omega) h0 h1
  have HX := fun (v : Value) (base : Nat) (W : World) (h : OwnB W base v l) (hB : base ≤ W.heap.size) => pack_putText v l s base W h hB (by omega) (by omega)
  have HP := fun (v : Value) (base : Nat) (W : World) (h : OwnB W base v l) (hB : base ≤ W.heap.size) => pack_put v l U base W h hB (by omega) (by rw [hU]; exact hu)
  have HR1 := ref_put U (by rw [hU]; exact hu)
  have HR2 := ref_put s.size (by omega)
  have HZ := fun W => pack_size U W (by rw [hU]; exact hu)
  have HC := fun (W : World) (h : Below w.heap.size w W) => clone_bytes A n c w.heap.size l W (hr.below h) h.size hl (by omega)
  rw [← hU] at hp1 huf
  simp only [← hU] at HF1 HF2 HI
  rw [huf] at HU
  generalize hq1 : put U = p1 at *
  generalize hq2 : put s.size = p2 at *
  have L1 : (l ++ p1).length ≤ 1000000000 := by rw [List.length_append]; omega
  have L2 : (l ++ p2).length ≤ 1000000000 := by rw [List.length_append]; omega
  have L3 : (l ++ p2 ++ txt s).length ≤ 1000000000 := by rw [List.length_append, txt_length, List.length_append]; omega
  have M1 : p1.length ≤ 1000000000 := by omega
  have M2 : p2.length ≤ 1000000000 := by omega
  obtain ⟨X1, hX1⟩ : ∃ X, X = l ++ p1 := ⟨_, rfl⟩
  obtain ⟨X2, hX2⟩ : ∃ X, X = l ++ p2 ++ txt s := ⟨_, rfl⟩
  rw [← hX1] at L1
  rw [← hX2] at L3
  simp only [← hX1, ← hX2] at HI HX HP
  have HX1 := hide hX1
  have HX2 := hide hX2
  clear hX1 hX2
  have HL := hide hl
  have HRD := hide hr
  have hF1 := hide HF1; have hF2 := hide HF2; have hHU := hide HU; have hI := hide HI; have hX := hide HX; have hP := hide HP; have hR1 := hide HR1; have hR2 := hide HR2; have hZ := hide HZ; have hC := hide HC
  have hL1 := hide L1; have hL2 := hide L2; have hL3 := hide L3; have hM1 := hide M1; have hM2 := hide M2; have hL0 := hide hl0; have hN0 := hide hn0
  clear HF1 HF2 HU HI HX HP HR1 HR2 HZ HC L1 L2 L3 M1 M2 hl hr hu huf hp1 hp2 hq1 hq2 hU hl0 hn0
  go_enter Try.func3, Try.ntmps3
  go_wp2_with fail
  refine (hF1.out _).mono ?_; rintro e w0 ⟨rfl, rfl⟩
  go_wp2_with (at_builtin; refine pushAll rfl _ _ 22 rfl Try.underlying22 Byte.info rfl (by decide) (by decide) rfl (OwnB.empty w) l _ A _ c rfl HL.out (by rw [map_flat]; exact ((HRD.out).alloc (Nat.le_refl _) _)) (by rw [map_flat]; intro u hu; obtain ⟨z, _, rfl⟩ := List.mem_map.1 hu; rfl) (by simp) hN0.out (by go_size) ?_; intro v1 w1 o1 hb1)
  have b1 := (show Below w.heap.size w _ from (Below.refl _ _).alloc (Nat.le_refl _) _).trans hb1
  have z1 := b1.size
  rw [List.nil_append] at o1
  refine (hR1.out w1).mono ?_; rintro e w2 ⟨⟨v2, rfl, o2⟩, hb2⟩
  obtain ⟨A2, c2, rfl, hc2, r2⟩ := o2.ints
  have o1' := o1.below hb2
  have b2 := then_ b1 hb2 (Nat.le_refl _)
  have z2 := b2.size
  clear o2 o1 hb1 hb2 b1
  go_wp2_with (first | (at_builtin; refine pushAll rfl _ _ 22 rfl Try.underlying22 Byte.info rfl (by decide) (by decide) rfl o1' p1 _ A2 _ c2 rfl rfl (by rw [map_flat]; exact r2) (by rw [map_flat]; intro u hu; obtain ⟨z, _, rfl⟩ := List.mem_map.1 hu; rfl) hL0.out hM1.out z2 ?_; intro v3 w3 o3 hb3) | (at_builtin; refine pushAll rfl _ _ 22 rfl Try.underlying22 Byte.info rfl (by decide) (by decide) rfl (OwnB.empty w3) l _ A _ c rfl HL.out (by rw [map_flat]; exact (((HRD.out).below (b2.trans hb3)).mono (Nat.le_trans z2 hb3.size) |>.alloc (Nat.le_refl _) _)) (by rw [map_flat]; intro u hu; obtain ⟨z, _, rfl⟩ := List.mem_map.1 hu; rfl) (by simp) hN0.out (by go_size) ?_; intro v4 w4 o4 hb4))
  rw [List.nil_append] at o4
  refine (hR2.out w4).mono ?_; rintro e w5 ⟨⟨v5, rfl, o5⟩, hb5⟩
  obtain ⟨A5, c5, rfl, hc5, r5⟩ := o5.ints
  have b3 := b2.trans hb3
  have d4 := (show Below w3.heap.size w3 _ from (Below.refl _ _).alloc (Nat.le_refl _) _).trans hb4
  have d5 := then_ d4 hb5 (Nat.le_refl _)
  have o4' := o4.below hb5
  have z5 := d5.size
  clear o5 o4 hb5 hb4 d4 o1' r2
  go_wp2_with (first | (at_builtin; refine pushAll rfl _ _ 22 rfl Try.underlying22 Byte.info rfl (by decide) (by decide) rfl o4' p2 _ A5 _ c5 rfl rfl (by rw [map_flat]; exact r5) (by rw [map_flat]; intro u hu; obtain ⟨z, _, rfl⟩ := List.mem_map.1 hu; rfl) hL0.out hM2.out z5 ?_; intro v6 w6 o6 hb6) | (at_builtin; refine pushText rfl _ _ 22 9 rfl Try.underlying22 Try.underlying9 rfl o6 s rfl hL2.out (by omega) (Nat.le_trans z5 hb6.size) ?_; intro v7 w7 o7 hb7))
  have d7 := (d5.trans hb6).trans hb7
  have z3 := b3.size
  have b7 := then_ b3 d7 (Nat.le_refl _)
  rw [← HX1.out] at o3
  rw [← HX2.out] at o7
  have q3 := o3.below d7
  obtain ⟨A3, c3, rfl, hc3, r3⟩ := q3.ints
  obtain ⟨A7, c7, rfl, hc7, r7⟩ := o7.ints
  clear q3 o7 o6 o3 o4' r5 d5 d7 hb6 hb7 hb3 b2 b3
  refine (hC.out w7 b7).mono ?_; rintro e w8 ⟨v8, rfl, o8, hb8⟩
  go_wp2_with fail
  refine (hI.out _ _ _ o8 hb8.size).mono ?_; rintro e w9 ⟨⟨v9, rfl, o9⟩, hb9⟩
  obtain ⟨A9, c9, rfl, hc9, r9⟩ := o9.ints
  have d9 := hb8.trans hb9
  clear o8 o9 hb8 hb9
  go_wp2_with fail
  have q9 := eqB A9 A3 _ _ c9 c3 _ _ X1 X1 w9 r9 (r3.below d9) hL1.out hL1.out
  rw [decide_eq_true rfl] at q9
  with_reducible refine Calls.mono q9 ?_
  clear q9
  rintro e wa ⟨rfl, m1, rfl⟩
  have b10 := below_drewN (then_ b7 d9 (Nat.le_refl _)) m1
  have r3a := hide ((r3.below d9).drewN m1)
  have r7a := hide ((r7.below d9).drewN m1)
  have z9 := d9.size
  have z9d : (w9.drewN m1).heap.size = w9.heap.size := rfl
  clear r3 r7 r9 d9 b7
  generalize w9.drewN m1 = w10 at *
  go_wp2_with fail
  refine (hC.out w10 b10).mono ?_; rintro e w11 ⟨v11, rfl, o11, hb11⟩
  go_wp2_with fail
  refine (hX.out _ _ _ o11 hb11.size).mono ?_; rintro e w12 ⟨⟨v12, rfl, o12⟩, hb12⟩
  obtain ⟨A12, c12, rfl, hc12, r12⟩ := o12.ints
  have d12 := hb11.trans hb12
  clear o11 o12 hb11 hb12
  go_wp2_with fail
  have q9 := eqB A12 A7 _ _ c12 c7 _ _ X2 X2 w12 r12 (((r7a.out).mono (Nat.le_trans z9 (by omega))).below d12) hL3.out hL3.out
  rw [decide_eq_true rfl] at q9
  with_reducible refine Calls.mono q9 ?_
  clear q9
  rintro e wb ⟨rfl, m2, rfl⟩
  have b13 := below_drewN (then_ b10 d12 (Nat.le_refl _)) m2
  have r3b := hide ((((r3a.out).mono (show _ ≤ w10.heap.size by omega)).below d12).drewN m2)
  have z12 := d12.size
  have z12d : (w12.drewN m2).heap.size = w12.heap.size := rfl
  clear r12 d12 b10
  generalize w12.drewN m2 = w13 at *
  go_wp2_with fail
  refine (hC.out w13 b13).mono ?_; rintro e w14 ⟨v14, rfl, o14, hb14⟩
  go_wp2_with fail
  refine (hP.out _ _ _ o14 hb14.size).mono ?_; rintro e w15 ⟨⟨v15, rfl, o15⟩, hb15⟩
  obtain ⟨A15, c15, rfl, hc15, r15⟩ := o15.ints
  have d15 := hb14.trans hb15
  clear o14 o15 hb14 hb15
  go_wp2_with fail
  have q9 := eqB A15 A3 _ _ c15 c3 _ _ X1 X1 w15 r15 (((r3b.out).mono (show _ ≤ w13.heap.size by omega)).below d15) hL1.out hL1.out
  rw [decide_eq_true rfl] at q9
  with_reducible refine Calls.mono q9 ?_
  clear q9
  rintro e wc ⟨rfl, m3, rfl⟩
  have b16 := below_drewN (then_ b13 d15 (Nat.le_refl _)) m3
  clear r15 d15 b13
  generalize w15.drewN m3 = w16 at *
  go_wp2_with (first | (go_at_call 18; refine (hF2.out _).mono ?_; rintro e w17 ⟨rfl, rfl⟩) | (go_at_call 19; refine (hHU.out _).mono ?_; rintro e w18 ⟨rfl, rfl⟩) | (go_at_call 20; refine (hZ.out _).mono ?_; rintro e w19 ⟨rfl, hb19⟩) | (go_at_call 12; refine (hR1.out _).mono ?_; rintro e w20 ⟨⟨v20, rfl, o20⟩, hb20⟩; obtain ⟨A20, c20, rfl, hc20, r20⟩ := o20.ints) | (go_at_call 21; refine (pack_alive _).mono ?_; rintro e w21 ⟨rfl, hb21⟩))
  go_ret
  exact ⟨rfl, then_ (then_ (then_ b16 hb19 (Nat.le_refl _)) hb20 (Nat.le_refl _)) hb21 (Nat.le_refl _)⟩
set_option maxRecDepth 100000 in
theorem packPuts_all (A : Option Addr) (n c : Nat) (l : List Int) (N : Int) (s : ByteArray) (w : World) (hr : Rd w w.heap.size 1 A n (l.map (Value.int .u8))) (hl : l.length = n) (hc : n ≤ c) (hN : (Lit.int .i64 N).wf = true) :
    Calls Try.prog 3 #[.slice A n c, .int .i64 N, .string s] w fun e w' => e = .returned (.bool true) ∧ Below w.heap.size w w' := by
  by_cases h : 300 < n ∨ (n ≤ 300 ∧ 300 < s.size)
  · clear hr hl hN
    rcases h with h | ⟨h, h'⟩
    all_goals
      go_enter Try.func3, Try.ntmps3
      go_wp2_with fail
      go_ret
      exact ⟨rfl, Below.refl _ _⟩
  · have hb := bounds_i64 hN
    exact packPuts_walk A n c l N s w hr hl hc (by omega) (by omega) hb.1 hb.2

set_option maxRecDepth 100000 in
theorem packPuts_lifted (os : Os) (started : os.Started) (H : Type) (enc : TypeId × Value → H) :
    ReturnsInHanded {} Try.checked os 3 .any (Rows.packPutsSpec.pre6 enc Try.prog Try.f3 [] false) (Rows.packPutsSpec.post enc Try.prog Try.f3 false true false false) := by
  refine law_lifted (C := Try.checked) Try.own started (by kernel_rfl) Try.func3
    (ChangeSpec.witness6 (enc := enc) (C := Try.checked) false ⟨#[], #[.slice none 0 0, .int .i64 0, .string ⟨#[]⟩], []⟩ 8 (by kernel_rfl) (by kernel_rfl) (by kernel_rfl) (by kernel_rfl))
    Try.laidOut (show ∀ t ∈ [22, 2, 9], Try.prog.readableRec t = true ∧ t < Try.prog.types.size from by
      intro t ht; simp only [List.mem_cons, List.not_mem_nil, or_false] at ht; rcases ht with rfl | rfl | rfl <;> exact ⟨by kernel_rfl, of_decide_eq_true (by kernel_rfl)⟩) (tb := 4) (by kernel_rfl) Try.underlying4 rfl (fun ds hd => ?_) ?_
  · match ds, hd with
    | [_, _, _], _ => rfl
  · intro W base args ds p hval hA
    have hval' : ∀ (j : Nat) t v, Try.f3.params[j]? = some t → args[j]? = some v → Value.okWide Try.prog W .any base t v := hval
    rw [Try.params3] at hA hval'
    obtain ⟨v0, v1, v2, d0, d1, d2, p0, p1, p2, rfl, rfl, rfl, h0, h1, h2⟩ := trodAll_three hA
    obtain ⟨A, n, c, l, rfl, hl, hcA, hcB, hw, hr⟩ := arg_ints Try.underlying22 Try.underlying5 (by kernel_rfl) (hval' 0 _ _ rfl rfl) h0
    obtain ⟨N, rfl, w1⟩ := arg_int Try.underlying2 (hval' 1 _ _ rfl rfl) h1
    obtain ⟨s, rfl, _, _, hs⟩ := Go.ChangeMaps.open_string Try.underlying9 (hval' 2 _ _ rfl rfl) h2
    exact packPuts_all A n c l N s W hr hl hcA w1

theorem packPuts_holds : Rows.PackPutsSaid :=
  OpenClaim.holds_of_wide 3 Try.f3 rfl rfl rfl rfl rfl rfl rfl ⟨rfl, rfl, rfl, rfl, rfl⟩ rfl rfl rfl rfl rfl (by kernel_rfl) Try.func3 (by kernel_rfl)
    (of_decide_eq_true (by kernel_rfl)) (by unfold Func.isWrapper; first | (rw [if_pos (by decide +kernel)]; kernel_rfl) | (rw [if_neg (by decide +kernel)]; exact ⟨rfl, rfl⟩))
    (fun os started H enc _ => packPuts_lifted os started H enc)
#print axioms packPuts_holds
end Go.Proofs.Ytknmpfimnbenjaa
