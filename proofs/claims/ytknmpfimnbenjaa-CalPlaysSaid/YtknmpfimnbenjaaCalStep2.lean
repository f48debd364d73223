/-
  The walks of the law's step (chapter 18).
-/
import Derived.Test.YtknmpfimnbenjaaCalStep
import Derived.Deep.DeepCutAuto
namespace Go.Proofs.Ytknmpfimnbenjaa
open Go.RowKit HB HeapP Go.Maps CalP
set_option linter.unusedVariables false
set_option linter.unusedSimpArgs false
set_option maxRecDepth 100000 in
set_option maxHeartbeats 8000000 in
theorem cal_step_pop (p g n c K d : Nat) (m : Option Nat) (A : Option Addr) (L l : List En) (a : En) (w : World) (h : Cs w p g m d L l) (hr : RdB w (Xb p g m) A n l) (hl : l.length = n) (hc : n ≤ c) (hn : n ≤ 10000) (hL : L.length ≤ 10000) (hd : d ≤ 10000) (ha : wfE a) (hK : K % 8 = 4 ∨ K % 8 = 5) :
    Calls Try.prog 46 #[.pointer (some ⟨p, 0, none⟩), .slice A n c, .agg #[.int .i64 K, .int .i64 a.t, .int .i64 a.k, .int .i64 a.i]] w (StepC p g d m L w) := by
  have HB0 := hide ((Below.refl w.heap.size w).alloc (Nat.le_refl _) (.cells #[.int .i64 K, .int .i64 a.t, .int .i64 a.k, .int .i64 a.i] 89))
  have HC0 := hide (h.below HB0.out)
  have HR0 := hide (hr.but (Y := Xb p g m) (But.of_below (X := Xb p g m) HB0.out) (fun _ _ h => h))
  have HFD := hide (cal_find A n c w.heap.size l a _ (hr.1.below HB0.out) HB0.out.size hl (by omega))
  have HL := hide hl
  have HX := hide h.wx
  have key : ∀ j, (w.alloc (.cells #[.int .i64 K, .int .i64 a.t, .int .i64 a.k, .int .i64 a.i] 89)).cell? ⟨w.heap.size, j, none⟩ = [Value.int .i64 K, .int .i64 a.t, .int .i64 a.k, .int .i64 a.i][j]? := fun j => by
    rw [cell_of_row _ w.heap.size j #[Value.int .i64 K, .int .i64 a.t, .int .i64 a.k, .int .i64 a.i] _ (0, 0) (heap_alloc_new w _)]; simp
  have HO := hide (show _ ∧ _ ∧ _ ∧ _ from ⟨key 0, key 1, key 2, key 3⟩)
  clear key
  have hm8 : K % 8 < 8 := Nat.mod_lt _ (by omega)
  obtain ⟨z, hz⟩ : ∃ z, z = K % 8 := ⟨_, rfl⟩
  rw [← hz] at hK hm8
  have e1 : (K : Int).tmod 8 = (z : Int) := by rw [Int.tmod_eq_emod_of_nonneg (by omega)]; omega
  have e2 : (K : Int) % 8 = (z : Int) := by omega
  have hpl := h.pl
  have hgl := h.hp.gl
  clear h hr hl hz
  have HLC := hide hL
  clear hL
  rcases hK with rfl | rfl
  · go_enter Try.func46, Try.ntmps46
    go_upto_region 2 with (go_at_call 66; refine (HFD.out).mono ?_; rintro e w1 ⟨⟨r, rfl, hf⟩, hb1⟩; have HF := hide hf; have HB1 := hide hb1; clear hf hb1)
    have HC1 := hide (HC0.out.below HB1.out)
    have HR1 := hide (HR0.out.but (Y := Xb p g m) (But.of_below (X := Xb p g m) HB1.out) (fun _ _ h => h))
    have o0 := hold1 HB1.out HO.out.1
    have o1 := hold1 HB1.out HO.out.2.1
    have o2 := hold1 HB1.out HO.out.2.2.1
    have o3 := hold1 HB1.out HO.out.2.2.2
    have HN1 := hide ((But.of_below (X := Xb p g m) HB0.out).then_ HB1.out)
    have hz1 := HN1.out.size
    have HX1 := hide HC1.out.wx
    clear HFD HO HB0 HC0 HR0 HB1
    go_upto_region 8 with (go_at_call 69; refine (cal_pop p g d L.length m L l _ HC1.out rfl (by have := HLC.out; omega)).mono ?_; rintro e w5 ⟨rfl, L5, hc5, hl5, hb5⟩; have HC5 := hide hc5; have HL5 := hide hl5; have HB5 := hide hb5; clear hc5 hl5 hb5)
    have hbe := (Below.refl w5.heap.size w5).alloc (Nat.le_refl _) (.cells #[.int .i64 (top l).t, .int .i64 (top l).k, .int .i64 (top l).i] 70)
    have HC9 := hide (HC5.out.below hbe)
    have HT9 := hide (Trio.new w5 70 (.int .i64 (top l).t) (.int .i64 (top l).k) (.int .i64 (top l).i))
    have HN9 := hide ((HN1.out.trans HB5.out (fun _ _ h => h)).then_ hbe)
    have HR9 := hide ((HR1.out.but (Y := Xb p g m) HB5.out (fun _ _ h => h)).but (Y := Xb p g m) (But.of_below (X := Xb p g m) hbe) (fun _ _ h => h))
    clear hbe o0 o1 o2 o3 HC1 HR1 HN1 HC5 HB5 HF
    generalize w5.alloc (.cells #[.int .i64 (top l).t, .int .i64 (top l).k, .int .i64 (top l).i] 70) = w9 at *
    generalize w5.heap.size = r9 at *
    obtain ⟨t0, t1, t2, -, -, -, -⟩ := HT9.out
    cases l with
    | nil =>
      obtain rfl : n = 0 := HL.out.symm
      have htz : top ([] : List En) = ⟨0, 0, 0⟩ := rfl
      rw [htz] at t0 t1 t2 ⊢
      have hdd : decide (0 < ([] : List En).length) = false := rfl
      rw [hdd]
      have hq0 : ((0 : Int) == 0) = true := by decide
      go_wp2_with fail
      go_quiet (fail)
      go_wp2_with fail
      go_ret2
      have hbn : ∀ j, Below w9.heap.size w9 (w9.drewN j) := fun j => below_drewN (Below.refl _ _) j
      exact ⟨g, m, d, L5, A, 0, c, [], rfl, HC9.out.below (hbn _), HR9.out.but (Y := Xb p g m) (But.of_below (X := Xb p g m) (hbn _)) (fun _ _ h => h), rfl, hc, by have := HL5.out; omega, Nat.le_succ _, HN9.out.then_ (hbn _), fun k _ h => h⟩
    | cons y t =>
      have h0 : 0 < n := by have := HL.out; simp at this; omega
      obtain ⟨b, off, x', rfl, hb, hg0, x0, x1, x2⟩ := HR9.out.1.ent_at HL.out h0
      have x0 : w9.cell? ⟨b, off, none⟩ = _ := x0
      have x1 : w9.cell? ⟨b, off + 1, none⟩ = _ := x1
      have x2 : w9.cell? ⟨b, off + 2, none⟩ = _ := x2
      obtain rfl : y = x' := by simpa using hg0
      have htz : top (y :: t) = y := rfl
      rw [htz] at t0 t1 t2 ⊢
      have hdd : decide (0 < (y :: t).length) = true := by simp
      rw [hdd]
      have hcut := HR9.out.cut (k := 1) (cap := c) h0 hc
      have HLD := hide (show t.length = n - 1 by have := HL.out; simp at this; omega)
      have i0 : (0 : Int) < (n : Int) := by omega
      have i1 : (1 : Int) ≤ (n : Int) := by omega
      have i2 : (n : Int) ≤ (c : Int) := by omega
      have h0n : ((n : Int) == 0) = false := by simp; omega
      have hcd : (y :: t).drop 1 = t := rfl
      have hc9 := HC9.out
      rw [hcd] at hcut hc9
      have HC9 := hide hc9
      have HBN := hide (show ∀ j, Below w9.heap.size w9 (w9.drewN j) from fun j => below_drewN (Below.refl _ _) j)
      clear hg0 hcd hc9 htz hdd
      by_cases hck : c = 1
      · rw [if_pos hck] at hcut
        have HCU := hide hcut
        clear hcut
        have hn1 : n = 1 := by omega
        subst hck
        subst hn1
        go_wp2_with fail
        go_quiet (fail)
        go_wp2_with fail
        go_ret2
        exact ⟨g, m, d, L5, _, _, _, t, rfl, HC9.out.below (HBN.out _), HCU.out.but (Y := Xb p g m) (But.of_below (X := Xb p g m) (HBN.out _)) (fun _ _ h => h), HLD.out, by omega, by have := HL5.out; omega, Nat.le_succ _, HN9.out.then_ (HBN.out _), fun k _ h => h⟩
      · rw [if_neg hck] at hcut
        have hadd : (⟨b, off, none⟩ : Addr).add (1 * 3) = ⟨b, off + 3, none⟩ := rfl
        simp only [Option.map_some, hadd] at hcut
        have HCU := hide hcut
        clear hcut hadd
        go_wp2_with fail
        go_quiet (fail)
        go_wp2_with fail
        go_ret2
        exact ⟨g, m, d, L5, _, _, _, t, rfl, HC9.out.below (HBN.out _), HCU.out.but (Y := Xb p g m) (But.of_below (X := Xb p g m) (HBN.out _)) (fun _ _ h => h), HLD.out, by omega, by have := HL5.out; omega, Nat.le_succ _, HN9.out.then_ (HBN.out _), fun k _ h => h⟩
  · go_enter Try.func46, Try.ntmps46
    go_upto_region 2 with (go_at_call 66; refine (HFD.out).mono ?_; rintro e w1 ⟨⟨r, rfl, hf⟩, hb1⟩; have HF := hide hf; have HB1 := hide hb1; clear hf hb1)
    have HC1 := hide (HC0.out.below HB1.out)
    have HR1 := hide (HR0.out.but (Y := Xb p g m) (But.of_below (X := Xb p g m) HB1.out) (fun _ _ h => h))
    have o0 := hold1 HB1.out HO.out.1
    have o1 := hold1 HB1.out HO.out.2.1
    have o2 := hold1 HB1.out HO.out.2.2.1
    have o3 := hold1 HB1.out HO.out.2.2.2
    have HN1 := hide ((But.of_below (X := Xb p g m) HB0.out).then_ HB1.out)
    have hz1 := HN1.out.size
    have HX1 := hide HC1.out.wx
    clear HFD HO HB0 HC0 HR0 HB1
    go_upto_region 8 with (go_at_call 69; refine (cal_pop p g d L.length m L l _ HC1.out rfl (by have := HLC.out; omega)).mono ?_; rintro e w5 ⟨rfl, L5, hc5, hl5, hb5⟩; have HC5 := hide hc5; have HL5 := hide hl5; have HB5 := hide hb5; clear hc5 hl5 hb5)
    have hbe := (Below.refl w5.heap.size w5).alloc (Nat.le_refl _) (.cells #[.int .i64 (top l).t, .int .i64 (top l).k, .int .i64 (top l).i] 70)
    have HC9 := hide (HC5.out.below hbe)
    have HT9 := hide (Trio.new w5 70 (.int .i64 (top l).t) (.int .i64 (top l).k) (.int .i64 (top l).i))
    have HN9 := hide ((HN1.out.trans HB5.out (fun _ _ h => h)).then_ hbe)
    have HR9 := hide ((HR1.out.but (Y := Xb p g m) HB5.out (fun _ _ h => h)).but (Y := Xb p g m) (But.of_below (X := Xb p g m) hbe) (fun _ _ h => h))
    clear hbe o0 o1 o2 o3 HC1 HR1 HN1 HC5 HB5 HF
    generalize w5.alloc (.cells #[.int .i64 (top l).t, .int .i64 (top l).k, .int .i64 (top l).i] 70) = w9 at *
    generalize w5.heap.size = r9 at *
    obtain ⟨t0, t1, t2, -, -, -, -⟩ := HT9.out
    cases l with
    | nil =>
      obtain rfl : n = 0 := HL.out.symm
      have htz : top ([] : List En) = ⟨0, 0, 0⟩ := rfl
      rw [htz] at t0 t1 t2 ⊢
      have hdd : decide (0 < ([] : List En).length) = false := rfl
      rw [hdd]
      have hq0 : ((0 : Int) == 0) = true := by decide
      go_wp2_with fail
      go_quiet (fail)
      go_wp2_with fail
      go_ret2
      have hbn : ∀ j, Below w9.heap.size w9 (w9.drewN j) := fun j => below_drewN (Below.refl _ _) j
      exact ⟨g, m, d, L5, A, 0, c, [], rfl, HC9.out.below (hbn _), HR9.out.but (Y := Xb p g m) (But.of_below (X := Xb p g m) (hbn _)) (fun _ _ h => h), rfl, hc, by have := HL5.out; omega, Nat.le_succ _, HN9.out.then_ (hbn _), fun k _ h => h⟩
    | cons y t =>
      have h0 : 0 < n := by have := HL.out; simp at this; omega
      obtain ⟨b, off, x', rfl, hb, hg0, x0, x1, x2⟩ := HR9.out.1.ent_at HL.out h0
      have x0 : w9.cell? ⟨b, off, none⟩ = _ := x0
      have x1 : w9.cell? ⟨b, off + 1, none⟩ = _ := x1
      have x2 : w9.cell? ⟨b, off + 2, none⟩ = _ := x2
      obtain rfl : y = x' := by simpa using hg0
      have htz : top (y :: t) = y := rfl
      rw [htz] at t0 t1 t2 ⊢
      have hdd : decide (0 < (y :: t).length) = true := by simp
      rw [hdd]
      have hcut := HR9.out.cut (k := 1) (cap := c) h0 hc
      have HLD := hide (show t.length = n - 1 by have := HL.out; simp at this; omega)
      have i0 : (0 : Int) < (n : Int) := by omega
      have i1 : (1 : Int) ≤ (n : Int) := by omega
      have i2 : (n : Int) ≤ (c : Int) := by omega
      have h0n : ((n : Int) == 0) = false := by simp; omega
      have hcd : (y :: t).drop 1 = t := rfl
      have hc9 := HC9.out
      rw [hcd] at hcut hc9
      have HC9 := hide hc9
      have HBN := hide (show ∀ j, Below w9.heap.size w9 (w9.drewN j) from fun j => below_drewN (Below.refl _ _) j)
      clear hg0 hcd hc9 htz hdd
      by_cases hck : c = 1
      · rw [if_pos hck] at hcut
        have HCU := hide hcut
        clear hcut
        have hn1 : n = 1 := by omega
        subst hck
        subst hn1
        go_wp2_with fail
        go_quiet (fail)
        go_wp2_with fail
        go_ret2
        exact ⟨g, m, d, L5, _, _, _, t, rfl, HC9.out.below (HBN.out _), HCU.out.but (Y := Xb p g m) (But.of_below (X := Xb p g m) (HBN.out _)) (fun _ _ h => h), HLD.out, by omega, by have := HL5.out; omega, Nat.le_succ _, HN9.out.then_ (HBN.out _), fun k _ h => h⟩
      · rw [if_neg hck] at hcut
        have hadd : (⟨b, off, none⟩ : Addr).add (1 * 3) = ⟨b, off + 3, none⟩ := rfl
        simp only [Option.map_some, hadd] at hcut
        have HCU := hide hcut
        clear hcut hadd
        go_wp2_with fail
        go_quiet (fail)
        go_wp2_with fail
        go_ret2
        exact ⟨g, m, d, L5, _, _, _, t, rfl, HC9.out.below (HBN.out _), HCU.out.but (Y := Xb p g m) (But.of_below (X := Xb p g m) (HBN.out _)) (fun _ _ h => h), HLD.out, by omega, by have := HL5.out; omega, Nat.le_succ _, HN9.out.then_ (HBN.out _), fun k _ h => h⟩
end Go.Proofs.Ytknmpfimnbenjaa
