/-
  The walks of the law's step (chapter 18).
-/
import Derived.Test.YtknmpfimnbenjaaCalE
import Derived.Deep.DeepCutAuto
namespace Go.Proofs.Ytknmpfimnbenjaa
open Go.RowKit HB HeapP Go.Maps CalP
set_option linter.unusedVariables false
set_option linter.unusedSimpArgs false
/-- what a call of both leaves -/
def StepC (p g d : Nat) (m : Option Nat) (L : List En) (w : World) (e : Ending) (w' : World) : Prop :=
  ∃ g' m' d' L' A' n' c' l', e = .returned (.tuple #[.slice A' n' c', .bool true]) ∧ Cs w' p g' m' d' L' l' ∧ RdB w' (Xb p g' m') A' n' l' ∧ l'.length = n' ∧ n' ≤ c' ∧ L'.length ≤ L.length + 1 ∧ d' ≤ d + 1 ∧ But (Xb p g m) w w' ∧ (∀ k, k < w.heap.size → Xb p g' m' k → Xb p g m k)
theorem Told.found {l : List En} {a : En} {c : Int} {ok : Bool} {q : Nat} {x : En} (h : Told l a.k a.i c ok) (hu : Uq l) (hq : l[q]? = some x) (hk : x.k = a.k) (hi : x.i = a.i) : ok = true ∧ c = x.t := by
  have hx := List.mem_of_getElem? hq
  rcases h with ⟨h1, e, he, h2, h3, h4⟩ | ⟨h1, _, h2⟩
  · have := hu.same he hx (h2.trans hk.symm) (h3.trans hi.symm)
    subst this
    exact ⟨h1, h4.symm⟩
  · exact absurd ⟨hk, hi⟩ (h2 x hx)
theorem Told.none_ {l : List En} {a : En} {c : Int} {ok : Bool} (h : Told l a.k a.i c ok) (hn : ∀ x ∈ l, ¬ (x.k = a.k ∧ x.i = a.i)) : ok = false ∧ c = 0 := by
  rcases h with ⟨h1, e, he, h2, h3, h4⟩ | ⟨h1, h0, h2⟩
  · exact absurd ⟨h2, h3⟩ (hn e he)
  · exact ⟨h1, h0⟩
set_option maxRecDepth 100000 in
set_option maxHeartbeats 8000000 in
theorem cal_step_drop (p g n c K d : Nat) (m : Option Nat) (A : Option Addr) (L l : List En) (a : En) (w : World) (h : Cs w p g m d L l) (hr : RdB w (Xb p g m) A n l) (hl : l.length = n) (hc : n ≤ c) (hn : n ≤ 10000) (hL : L.length ≤ 10000) (hd : d ≤ 10000) (ha : wfE a) (hK : K % 8 = 3) :
    Calls Try.prog 46 #[.pointer (some ⟨p, 0, none⟩), .slice A n c, .agg #[.int .i64 K, .int .i64 a.t, .int .i64 a.k, .int .i64 a.i]] w (StepC p g d m L w) := by
  have HB0 := hide ((Below.refl w.heap.size w).alloc (Nat.le_refl _) (.cells #[.int .i64 K, .int .i64 a.t, .int .i64 a.k, .int .i64 a.i] 89))
  have HC0 := hide (h.below HB0.out)
  have HR0 := hide (hr.but (Y := Xb p g m) (But.of_below (X := Xb p g m) HB0.out) (fun _ _ h => h))
  have HFD := hide (cal_find A n c w.heap.size l a _ (hr.1.below HB0.out) HB0.out.size hl (by omega))
  have HL := hide hl
  have HX := hide h.wx
  have key : ∀ j, (w.alloc (.cells #[.int .i64 K, .int .i64 a.t, .int .i64 a.k, .int .i64 a.i] 89)).cell? ⟨w.heap.size, j, none⟩ = [Value.int .i64 K, .int .i64 a.t, .int .i64 a.k, .int .i64 a.i][j]? := fun j => by
    rw [cell_of_row _ w.heap.size j #[Value.int .i64 K, .int .i64 a.t, .int .i64 a.k, .int .i64 a.i] _ (0, 0) (heap_alloc_new w _)]; simp
  have HO := hide (show _ ∧ _ ∧ _ ∧ _ from ⟨key 0, key 1, key 2, key 3⟩)
  clear key
  have hm8 : K % 8 < 8 := Nat.mod_lt _ (by omega)
  obtain ⟨z, hz⟩ : ∃ z, z = K % 8 := ⟨_, rfl⟩
  rw [← hz] at hK hm8
  have e1 : (K : Int).tmod 8 = (z : Int) := by rw [Int.tmod_eq_emod_of_nonneg (by omega)]; omega
  have e2 : (K : Int) % 8 = (z : Int) := by omega
  have hpl := h.pl
  have hgl := h.hp.gl
  clear h hr hl hz
  subst hK
  go_enter Try.func46, Try.ntmps46
  go_upto_region 2 with (go_at_call 66; refine (HFD.out).mono ?_; rintro e w1 ⟨⟨r, rfl, hf⟩, hb1⟩; have HF := hide hf; have HB1 := hide hb1; clear hf hb1)
  have HC1 := hide (HC0.out.below HB1.out)
  have HR1 := hide (HR0.out.but (Y := Xb p g m) (But.of_below (X := Xb p g m) HB1.out) (fun _ _ h => h))
  have o0 := hold1 HB1.out HO.out.1
  have o1 := hold1 HB1.out HO.out.2.1
  have o2 := hold1 HB1.out HO.out.2.2.1
  have o3 := hold1 HB1.out HO.out.2.2.2
  have HN1 := hide ((But.of_below (X := Xb p g m) HB0.out).then_ HB1.out)
  have hz1 := HN1.out.size
  have HX1 := hide HC1.out.wx
  clear HFD HO HB0 HC0 HR0 HB1
  rcases HF.out with ⟨q, x, rfl, hq, hk, hi⟩ | ⟨rfl, hno⟩
  · have hqn : q < n := by have := (List.getElem?_eq_some_iff.1 hq).1; rw [HL.out] at this; exact this
    have HWO := hide (show wo l a.k a.i = l.take q ++ l.drop (q + 1) from by rw [← hk, ← hi]; exact wo_at HC1.out.ch.uq hq)
    have HQ := hide (show l[q]? = some x ∧ x.k = a.k ∧ x.i = a.i from ⟨hq, hk, hi⟩)
    have i0 : (0 : Int) ≤ (q : Int) := by omega
    clear hq hk hi
    go_upto_region 4 with (fail)
    have hnx : ¬ Xb p g m w.heap.size := fun h => Nat.lt_irrefl _ (HX.out _ h)
    go_region_held3 (fun w' => w'.cell? ⟨w.heap.size, 2, none⟩ = some (.int .i64 a.k) ∧ w'.cell? ⟨w.heap.size, 3, none⟩ = some (.int .i64 a.i) ∧ But (Xb p g m) w1 w')
      (first | (exact ⟨o2, o3, But.of_below (Below.refl _ _).drew⟩) | (go_split_ands; exact ⟨hb5.cell ‹_› hnx, hb5.cell ‹_› hnx, (‹But (Xb p g m) w1 _›).trans hb5 (fun _ _ h => h)⟩) | (go_split_ands; exact ⟨hold1 hb4 ‹_›, hold1 hb4 ‹_›, (‹But (Xb p g m) w1 _›).then_ hb4⟩))
      (first
        | (go_at_call 67; refine (cal_without A n c _ q l _ (HR1.out.but (Y := Xb p g m) (by go_split_ands; assumption) (fun _ _ h => h)).1 (Nat.le_refl _) HL.out hc (by omega) hqn).mono ?_; rintro e w4 ⟨⟨v, rfl, hown⟩, hb4⟩; obtain ⟨l4, hl4⟩ : ∃ l4, l4 = wo l a.k a.i := ⟨_, rfl⟩; have HL4 := hide hl4; rw [← HWO.out, ← hl4] at hown; clear hl4; obtain ⟨A4, c4, rfl, hc4, -⟩ := hown.shape)
        | (go_at_call 68; refine (cal_drop p g d m L l a.k a.i _ (by first | exact HC1.out.below (Below.refl _ _).drew | exact HC1.out.below ((Below.refl _ _).drew.trans hb4)) ha.2.1 ha.2.2).mono ?_; rintro e w5 ⟨⟨c5, ok5, rfl, hT⟩, hc5, hb5⟩; obtain ⟨rfl, -⟩ := hT.found HC1.out.ch.uq HQ.out.1 HQ.out.2.1 HQ.out.2.2))
    have HR4 := hide ((RdB.fresh hown (X := Xb p g m) (fun k hk h => by have := HX1.out k h; simp only [World.size_drew] at hk; omega)).but hb5 (fun _ _ h => h))
    have HN5 := hide (HN1.out.trans (show But (Xb p g m) w1 w5 from by go_split_ands; assumption) (fun _ _ h => h))
    rw [← HL4.out] at hc5
    have HC5 := hide hc5
    clear hc5 hb5 hb4 hown hT
    go_wp2_with fail
    go_ret2
    exact ⟨g, m, d, L, A4, _, c4, l4, rfl, HC5.out, HR4.out, rfl, hc4, Nat.le_succ _, Nat.le_succ _, HN5.out, fun k _ h => h⟩
  · have hno' := hno
    have HNO := hide hno
    clear hno hno'
    have HWO := hide (show wo l a.k a.i = l from wo_none HNO.out)
    go_upto_region 4 with (fail)
    have hnx : ¬ Xb p g m w.heap.size := fun h => Nat.lt_irrefl _ (HX.out _ h)
    go_region_held3 (fun w' => w'.cell? ⟨w.heap.size, 2, none⟩ = some (.int .i64 a.k) ∧ w'.cell? ⟨w.heap.size, 3, none⟩ = some (.int .i64 a.i) ∧ But (Xb p g m) w1 w')
      (first | (exact ⟨o2, o3, But.of_below (Below.refl _ _).drew⟩) | (go_split_ands; exact ⟨hb5.cell ‹_› hnx, hb5.cell ‹_› hnx, (‹But (Xb p g m) w1 _›).trans hb5 (fun _ _ h => h)⟩) | (go_split_ands; exact ⟨‹_›, ‹_›, ‹_›⟩))
      (first
        | (go_at_call 67; refine (cal_without_no A n c _).mono ?_; rintro e w4 ⟨rfl, rfl⟩)
        | (go_at_call 68; refine (cal_drop p g d m L l a.k a.i _ (HC1.out.below (Below.refl _ _).drew) ha.2.1 ha.2.2).mono ?_; rintro e w5 ⟨⟨c5, ok5, rfl, hT⟩, hc5, hb5⟩; obtain ⟨rfl, -⟩ := hT.none_ HNO.out; rw [HWO.out] at hc5))
    have HN5 := hide (HN1.out.trans (show But (Xb p g m) w1 w5 from by go_split_ands; assumption) (fun _ _ h => h))
    have HR5 := hide (HR1.out.but (Y := Xb p g m) (show But (Xb p g m) w1 w5 from by go_split_ands; assumption) (fun _ _ h => h))
    have HC5 := hide hc5
    clear hc5 hb5 hT
    go_wp2_with fail
    go_ret2
    exact ⟨g, m, d, L, A, n, c, l, rfl, HC5.out, HR5.out, HL.out, hc, Nat.le_succ _, Nat.le_succ _, HN5.out, fun k _ h => h⟩
set_option maxRecDepth 100000 in
set_option maxHeartbeats 8000000 in
theorem cal_step_at (p g n c K d : Nat) (m : Option Nat) (A : Option Addr) (L l : List En) (a : En) (w : World) (h : Cs w p g m d L l) (hr : RdB w (Xb p g m) A n l) (hl : l.length = n) (hc : n ≤ c) (hn : n ≤ 10000) (hL : L.length ≤ 10000) (hd : d ≤ 10000) (ha : wfE a) (hK : K % 8 = 6) :
    Calls Try.prog 46 #[.pointer (some ⟨p, 0, none⟩), .slice A n c, .agg #[.int .i64 K, .int .i64 a.t, .int .i64 a.k, .int .i64 a.i]] w (StepC p g d m L w) := by
  have HB0 := hide ((Below.refl w.heap.size w).alloc (Nat.le_refl _) (.cells #[.int .i64 K, .int .i64 a.t, .int .i64 a.k, .int .i64 a.i] 89))
  have HC0 := hide (h.below HB0.out)
  have HR0 := hide (hr.but (Y := Xb p g m) (But.of_below (X := Xb p g m) HB0.out) (fun _ _ h => h))
  have HFD := hide (cal_find A n c w.heap.size l a _ (hr.1.below HB0.out) HB0.out.size hl (by omega))
  have HL := hide hl
  have HX := hide h.wx
  have key : ∀ j, (w.alloc (.cells #[.int .i64 K, .int .i64 a.t, .int .i64 a.k, .int .i64 a.i] 89)).cell? ⟨w.heap.size, j, none⟩ = [Value.int .i64 K, .int .i64 a.t, .int .i64 a.k, .int .i64 a.i][j]? := fun j => by
    rw [cell_of_row _ w.heap.size j #[Value.int .i64 K, .int .i64 a.t, .int .i64 a.k, .int .i64 a.i] _ (0, 0) (heap_alloc_new w _)]; simp
  have HO := hide (show _ ∧ _ ∧ _ ∧ _ from ⟨key 0, key 1, key 2, key 3⟩)
  clear key
  have hm8 : K % 8 < 8 := Nat.mod_lt _ (by omega)
  obtain ⟨z, hz⟩ : ∃ z, z = K % 8 := ⟨_, rfl⟩
  rw [← hz] at hK hm8
  have e1 : (K : Int).tmod 8 = (z : Int) := by rw [Int.tmod_eq_emod_of_nonneg (by omega)]; omega
  have e2 : (K : Int) % 8 = (z : Int) := by omega
  have hpl := h.pl
  have hgl := h.hp.gl
  clear h hr hl hz
  subst hK
  go_enter Try.func46, Try.ntmps46
  go_upto_region 2 with (go_at_call 66; refine (HFD.out).mono ?_; rintro e w1 ⟨⟨r, rfl, hf⟩, hb1⟩; have HF := hide hf; have HB1 := hide hb1; clear hf hb1)
  have HC1 := hide (HC0.out.below HB1.out)
  have HR1 := hide (HR0.out.but (Y := Xb p g m) (But.of_below (X := Xb p g m) HB1.out) (fun _ _ h => h))
  have o0 := hold1 HB1.out HO.out.1
  have o1 := hold1 HB1.out HO.out.2.1
  have o2 := hold1 HB1.out HO.out.2.2.1
  have o3 := hold1 HB1.out HO.out.2.2.2
  have HN1 := hide ((But.of_below (X := Xb p g m) HB0.out).then_ HB1.out)
  have hz1 := HN1.out.size
  have HX1 := hide HC1.out.wx
  clear HFD HO HB0 HC0 HR0 HB1
  rcases HF.out with ⟨q, x, rfl, hq, hk, hi⟩ | ⟨rfl, hno⟩
  · have hqn : q < n := by have := (List.getElem?_eq_some_iff.1 hq).1; rw [HL.out] at this; exact this
    have HQ := hide (show l[q]? = some x ∧ x.k = a.k ∧ x.i = a.i from ⟨hq, hk, hi⟩)
    have i0 : (0 : Int) ≤ (q : Int) := by omega
    have i1 : (q : Int) < (n : Int) := by omega
    have i2 : ¬ (q : Int) < 0 := by omega
    clear hq hk hi HF
    go_upto_region 15 with (go_at_call 70; refine (cal_at p g d m L l a.k a.i _ HC1.out ha.2.1 ha.2.2).mono ?_; rintro e w5 ⟨⟨c5, ok5, rfl, hT⟩, hb5⟩; obtain ⟨rfl, rfl⟩ := hT.found HC1.out.ch.uq HQ.out.1 HQ.out.2.1 HQ.out.2.2; have HB5 := hide hb5; clear hb5 hT)
    have HC5 := hide (HC1.out.below HB5.out)
    have HR5 := hide (HR1.out.but (Y := Xb p g m) (But.of_below (X := Xb p g m) HB5.out) (fun _ _ h => h))
    have HN5 := hide (HN1.out.then_ HB5.out)
    clear o0 o1 o2 o3 HC1 HR1
    obtain ⟨b, off, y, rfl, hb, hg, x0, x1, x2⟩ := HR5.out.1.ent_at HL.out hqn
    have hxy : y = x := by have := HQ.out.1; rw [hg] at this; injection this
    subst hxy
    clear hg
    go_quiet (fail)
    go_wp2_with fail
    go_ret2
    have hbn : ∀ j, Below w5.heap.size w5 (w5.drewN j) := fun j => below_drewN (Below.refl _ _) j
    exact ⟨g, m, d, L, _, n, c, l, rfl, HC5.out.below (hbn _), HR5.out.but (Y := Xb p g m) (But.of_below (X := Xb p g m) (hbn _)) (fun _ _ h => h), HL.out, hc, Nat.le_succ _, Nat.le_succ _, HN5.out.then_ (hbn _), fun k _ h => h⟩
  · have HNO := hide hno
    clear hno HF
    go_wp2_with (go_at_call 70; refine (cal_at p g d m L l a.k a.i _ HC1.out ha.2.1 ha.2.2).mono ?_; rintro e w5 ⟨⟨c5, ok5, rfl, hT⟩, hb5⟩; obtain ⟨rfl, rfl⟩ := hT.none_ HNO.out; have HB5 := hide hb5; clear hb5 hT)
    go_ret2
    exact ⟨g, m, d, L, _, n, c, l, rfl, HC1.out.below HB5.out, HR1.out.but (Y := Xb p g m) (But.of_below (X := Xb p g m) HB5.out) (fun _ _ h => h), HL.out, hc, Nat.le_succ _, Nat.le_succ _, HN1.out.then_ HB5.out, fun k _ h => h⟩
set_option maxRecDepth 100000 in
set_option maxHeartbeats 8000000 in
theorem cal_step_clear (p g n c K d : Nat) (m : Option Nat) (A : Option Addr) (L l : List En) (a : En) (w : World) (h : Cs w p g m d L l) (hr : RdB w (Xb p g m) A n l) (hl : l.length = n) (hc : n ≤ c) (hn : n ≤ 10000) (hL : L.length ≤ 10000) (hd : d ≤ 10000) (ha : wfE a) (hK : K % 8 = 7) :
    Calls Try.prog 46 #[.pointer (some ⟨p, 0, none⟩), .slice A n c, .agg #[.int .i64 K, .int .i64 a.t, .int .i64 a.k, .int .i64 a.i]] w (StepC p g d m L w) := by
  have HB0 := hide ((Below.refl w.heap.size w).alloc (Nat.le_refl _) (.cells #[.int .i64 K, .int .i64 a.t, .int .i64 a.k, .int .i64 a.i] 89))
  have HC0 := hide (h.below HB0.out)
  have HR0 := hide (hr.but (Y := Xb p g m) (But.of_below (X := Xb p g m) HB0.out) (fun _ _ h => h))
  have HFD := hide (cal_find A n c w.heap.size l a _ (hr.1.below HB0.out) HB0.out.size hl (by omega))
  have HL := hide hl
  have HX := hide h.wx
  have key : ∀ j, (w.alloc (.cells #[.int .i64 K, .int .i64 a.t, .int .i64 a.k, .int .i64 a.i] 89)).cell? ⟨w.heap.size, j, none⟩ = [Value.int .i64 K, .int .i64 a.t, .int .i64 a.k, .int .i64 a.i][j]? := fun j => by
    rw [cell_of_row _ w.heap.size j #[Value.int .i64 K, .int .i64 a.t, .int .i64 a.k, .int .i64 a.i] _ (0, 0) (heap_alloc_new w _)]; simp
  have HO := hide (show _ ∧ _ ∧ _ ∧ _ from ⟨key 0, key 1, key 2, key 3⟩)
  clear key
  have hm8 : K % 8 < 8 := Nat.mod_lt _ (by omega)
  obtain ⟨z, hz⟩ : ∃ z, z = K % 8 := ⟨_, rfl⟩
  rw [← hz] at hK hm8
  have e1 : (K : Int).tmod 8 = (z : Int) := by rw [Int.tmod_eq_emod_of_nonneg (by omega)]; omega
  have e2 : (K : Int) % 8 = (z : Int) := by omega
  have hpl := h.pl
  have hgl := h.hp.gl
  clear h hr hl hz
  subst hK
  go_enter Try.func46, Try.ntmps46
  go_upto_region 2 with (go_at_call 66; refine (HFD.out).mono ?_; rintro e w1 ⟨⟨r, rfl, hf⟩, hb1⟩; have HF := hide hf; have HB1 := hide hb1; clear hf hb1)
  have HC1 := hide (HC0.out.below HB1.out)
  have HR1 := hide (HR0.out.but (Y := Xb p g m) (But.of_below (X := Xb p g m) HB1.out) (fun _ _ h => h))
  have o0 := hold1 HB1.out HO.out.1
  have o1 := hold1 HB1.out HO.out.2.1
  have o2 := hold1 HB1.out HO.out.2.2.1
  have o3 := hold1 HB1.out HO.out.2.2.2
  have HN1 := hide ((But.of_below (X := Xb p g m) HB0.out).then_ HB1.out)
  have hz1 := HN1.out.size
  have HX1 := hide HC1.out.wx
  clear HFD HO HB0 HC0 HR0 HB1
  by_cases ht : a.t = 0
  · have h0 : ((0 : Int) == 0) = true := by decide
    have ho1 := o1
    rw [ht] at ho1
    clear o1
    obtain ⟨at', ak, ai⟩ := a
    simp only at ht
    subst ht
    go_wp2_with (go_at_call 71; refine (cal_clear p g d m L l _ HC1.out).mono ?_; rintro e w5 ⟨rfl, hc5, hb5⟩; have HC5 := hide hc5; have HB5 := hide hb5; clear hc5 hb5)
    go_ret2
    exact ⟨p, m, d, [], none, 0, 0, [], rfl, HC5.out, ⟨⟨rfl, fun h => absurd h (Nat.lt_irrefl _)⟩, fun h => absurd h (Nat.lt_irrefl _)⟩, rfl, Nat.le_refl _, Nat.zero_le _, Nat.le_succ _, HN1.out.trans HB5.out (fun _ _ h => h), fun k _ h => by rcases h with h | h | h; exact .inl h; exact .inl h; exact .inr (.inr h)⟩
  · have h0 : (a.t == 0) = false := by simpa using ht
    clear ht
    go_wp2_with fail
    go_ret2
    exact ⟨g, m, d, L, _, n, c, l, rfl, HC1.out, HR1.out, HL.out, hc, Nat.le_succ _, Nat.le_succ _, HN1.out, fun k _ h => h⟩
end Go.Proofs.Ytknmpfimnbenjaa
