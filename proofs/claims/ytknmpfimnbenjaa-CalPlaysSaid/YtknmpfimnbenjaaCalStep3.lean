/-
  The walks of the law's step (chapter 18).
-/
import Derived.Test.YtknmpfimnbenjaaCalStep2
import Derived.Deep.DeepCutAuto
namespace Go.Proofs.Ytknmpfimnbenjaa
open Go.RowKit HB HeapP Go.Maps CalP
set_option linter.unusedVariables false
set_option linter.unusedSimpArgs false
theorem HeapP.At.put {l : List En} {a : En} {k : Nat} {r : List En} (h : At r a k) (hr : r = wo l a.k a.i) (hs : Srt l) : Srt (r.take k ++ a :: r.drop k) ∧ (r.take k ++ a :: r.drop k).Perm (a :: wo l a.k a.i) := by
  refine ⟨h.srt (by rw [hr]; exact wo_srt hs _ _), ?_⟩
  rw [← hr]
  have := List.perm_middle (a := a) (l₁ := r.take k) (l₂ := r.drop k)
  rwa [List.take_append_drop] at this
set_option maxRecDepth 100000 in
set_option maxHeartbeats 8000000 in
theorem cal_step_set (p g n c K d : Nat) (m : Option Nat) (A : Option Addr) (L l : List En) (a : En) (w : World) (h : Cs w p g m d L l) (hr : RdB w (Xb p g m) A n l) (hl : l.length = n) (hc : n ≤ c) (hn : n ≤ 10000) (hL : L.length ≤ 10000) (hd : d ≤ 10000) (ha : wfE a) (hK : K % 8 < 3) :
    Calls Try.prog 46 #[.pointer (some ⟨p, 0, none⟩), .slice A n c, .agg #[.int .i64 K, .int .i64 a.t, .int .i64 a.k, .int .i64 a.i]] w (StepC p g d m L w) := by
  have HB0 := hide ((Below.refl w.heap.size w).alloc (Nat.le_refl _) (.cells #[.int .i64 K, .int .i64 a.t, .int .i64 a.k, .int .i64 a.i] 89))
  have HC0 := hide (h.below HB0.out)
  have HR0 := hide (hr.but (Y := Xb p g m) (But.of_below (X := Xb p g m) HB0.out) (fun _ _ h => h))
  have HFD := hide (cal_find A n c w.heap.size l a _ (hr.1.below HB0.out) HB0.out.size hl (by omega))
  have HL := hide hl
  have HX := hide h.wx
  have key : ∀ j, (w.alloc (.cells #[.int .i64 K, .int .i64 a.t, .int .i64 a.k, .int .i64 a.i] 89)).cell? ⟨w.heap.size, j, none⟩ = [Value.int .i64 K, .int .i64 a.t, .int .i64 a.k, .int .i64 a.i][j]? := fun j => by
    rw [cell_of_row _ w.heap.size j #[Value.int .i64 K, .int .i64 a.t, .int .i64 a.k, .int .i64 a.i] _ (0, 0) (heap_alloc_new w _)]; simp
  have HO := hide (show _ ∧ _ ∧ _ ∧ _ from ⟨key 0, key 1, key 2, key 3⟩)
  clear key
  have hm8 : K % 8 < 8 := Nat.mod_lt _ (by omega)
  obtain ⟨z, hz⟩ : ∃ z, z = K % 8 := ⟨_, rfl⟩
  rw [← hz] at hK hm8
  have e1 : (K : Int).tmod 8 = (z : Int) := by rw [Int.tmod_eq_emod_of_nonneg (by omega)]; omega
  have e2 : (K : Int) % 8 = (z : Int) := by omega
  have hpl := h.pl
  have hgl := h.hp.gl
  clear h hr hl hz
  have HLC := hide hL
  clear hL
  have e3 : IntKind.i64.wrap (z : Int) = (z : Int) := IntWalk.i64_in _ (by omega)
  have z3 : ((z : Int) == 3) = false := by simp; omega
  have z4 : ((z : Int) == 4) = false := by simp; omega
  have z5 : ((z : Int) == 5) = false := by simp; omega
  have z6 : ((z : Int) == 6) = false := by simp; omega
  have z7 : ((z : Int) == 7) = false := by simp; omega
  go_enter Try.func46, Try.ntmps46
  go_upto_region 2 with (go_at_call 66; refine (HFD.out).mono ?_; rintro e w1 ⟨⟨r, rfl, hf⟩, hb1⟩; have HF := hide hf; have HB1 := hide hb1; clear hf hb1)
  have HC1 := hide (HC0.out.below HB1.out)
  have HR1 := hide (HR0.out.but (Y := Xb p g m) (But.of_below (X := Xb p g m) HB1.out) (fun _ _ h => h))
  have o0 := hold1 HB1.out HO.out.1
  have o1 := hold1 HB1.out HO.out.2.1
  have o2 := hold1 HB1.out HO.out.2.2.1
  have o3 := hold1 HB1.out HO.out.2.2.2
  have HN1 := hide ((But.of_below (X := Xb p g m) HB0.out).then_ HB1.out)
  have hz1 := HN1.out.size
  have HX1 := hide HC1.out.wx
  clear HFD HO HB0 HC0 HR0 HB1
  go_upto_region 22 with (go_at_call 72; refine (cal_set p g d L.length m L l a _ HC1.out rfl (by have := HLC.out; omega) (by omega) ha).mono ?_; rintro e w5 ⟨rfl, g', b', d', L5, hc5, hl5, hd5, hb5, hx5⟩; have HC5 := hide hc5; have HL5 := hide hl5; have HB5 := hide hb5; have HX5 := hide hx5; clear hc5 hl5 hb5 hx5)
  have hnx : ¬ Xb p g m w.heap.size := fun h => Nat.lt_irrefl _ (HX.out _ h)
  have p1 := HB5.out.cell o1 hnx
  have p2 := HB5.out.cell o2 hnx
  have p3 := HB5.out.cell o3 hnx
  have HSL := hide HC1.out.ch.srt
  have HUQ := hide HC1.out.ch.uq
  have HR5 := hide (HR1.out.but (Y := fun k => Xb p g' (some b') k) HB5.out (fun k hk h => HX5.out k hk h))
  have HN5 := hide (HN1.out.trans HB5.out (fun _ _ h => h))
  have HX6 := hide (fun k (hk : k < w.heap.size) (h : Xb p g' (some b') k) => HX5.out k (Nat.lt_of_lt_of_le hk hz1) h)
  clear o0 o1 o2 o3 HC1 HR1 hnx HN1
  rcases HF.out with ⟨q, x, rfl, hq, hk, hi⟩ | ⟨rfl, hno⟩
  · have hqn : q < n := by have := (List.getElem?_eq_some_iff.1 hq).1; rw [HL.out] at this; exact this
    have HWO := hide (show wo l a.k a.i = l.take q ++ l.drop (q + 1) from by rw [← hk, ← hi]; exact wo_at HUQ.out hq)
    have hwl := List.length_filter_le (fun x => !isK a.k a.i x) l
    have HWL := hide (show (wo l a.k a.i).length ≤ n from by rw [HL.out] at hwl; exact hwl)
    have i0 : (0 : Int) ≤ (q : Int) := by omega
    clear hq hk hi hwl HF
    go_region_held3 (fun w' => w'.cell? ⟨w.heap.size, 1, none⟩ = some (.int .i64 a.t) ∧ w'.cell? ⟨w.heap.size, 2, none⟩ = some (.int .i64 a.k) ∧ w'.cell? ⟨w.heap.size, 3, none⟩ = some (.int .i64 a.i) ∧ Below w5.heap.size w5 w')
      (first | (exact ⟨p1, p2, p3, (Below.refl _ _).drew⟩) | (go_split_ands; exact ⟨hold1 hb7 ‹_›, hold1 hb7 ‹_›, hold1 hb7 ‹_›, (‹Below w5.heap.size w5 _›).trans (hb7.mono (‹Below w5.heap.size w5 _›).size)⟩) | (go_split_ands; exact ⟨hold1 hb6 ‹_›, hold1 hb6 ‹_›, hold1 hb6 ‹_›, (‹Below w5.heap.size w5 _›).trans (hb6.mono (‹Below w5.heap.size w5 _›).size)⟩))
      (first
        | (go_at_call 67; refine (cal_without A n c _ q l _ (HR5.out.1.below (Below.refl _ _).drew) (Nat.le_refl _) HL.out hc (by omega) hqn).mono ?_; rintro e w6 ⟨⟨v, rfl, hown⟩, hb6⟩; obtain ⟨l4, hl4⟩ : ∃ l4, l4 = wo l a.k a.i := ⟨_, rfl⟩; have HL4 := hide hl4; have HWL4 := hide HWL.out; rw [← hl4] at HWL4; rw [← HWO.out, ← hl4] at hown; clear hl4; obtain ⟨A4, c4, rfl, hc4, hrd4⟩ := hown.shape; have HRD4 := hide hrd4; clear hrd4; obtain ⟨n4, hn4⟩ : ∃ n4, n4 = l4.length := ⟨_, rfl⟩; have HN4 := hide hn4; rw [← hn4] at hc4 ⊢; clear hn4)
        | (go_at_call 62; refine (ref_put6 A4 n4 c4 _ l4 a _ (by rw [HN4.out]; exact HRD4.out) (Nat.le_refl _) HN4.out.symm hc4 (by have := HWL4.out; have := HN4.out; omega)).mono ?_; rintro e w7 ⟨⟨v7, k7, rfl, hown7, hat⟩, hb7⟩; obtain ⟨l7, hl7⟩ : ∃ l7, l7 = l4.take k7 ++ a :: l4.drop k7 := ⟨_, rfl⟩; have HL7 := hide hl7; rw [← hl7] at hown7; clear hl7; obtain ⟨A7, c7, rfl, hc7, -⟩ := hown7.shape))
    have hb57 : Below w5.heap.size w5 w7 := by go_split_ands; assumption
    obtain ⟨hs7, hp7⟩ := hat.put HL4.out HSL.out
    rw [← HL7.out] at hs7 hp7
    have hcs := HC5.out l7 hs7 hp7
    have HCS := hide (hcs.below hb57)
    have HR7 := hide (RdB.fresh hown7 (X := Xb p g' (some b')) (fun k hk h => by have := hcs.wx k h; have h6 := hb6.size; simp only [World.size_drew] at h6; omega))
    have HB7 := hide hb57
    clear hcs hs7 hp7 hb57 hown7 hat
    go_wp2_with fail
    go_ret2
    exact ⟨g', some b', d', L5, A7, _, c7, l7, rfl, HCS.out, HR7.out, rfl, hc7, HL5.out, hd5, HN5.out.then_ HB7.out, HX6.out⟩
  · have HWO := hide (show wo l a.k a.i = l from wo_none hno)
    clear hno HF
    go_region_held3 (fun w' => w'.cell? ⟨w.heap.size, 1, none⟩ = some (.int .i64 a.t) ∧ w'.cell? ⟨w.heap.size, 2, none⟩ = some (.int .i64 a.k) ∧ w'.cell? ⟨w.heap.size, 3, none⟩ = some (.int .i64 a.i) ∧ Below w5.heap.size w5 w')
      (first | (exact ⟨p1, p2, p3, (Below.refl _ _).drew⟩) | (go_split_ands; exact ⟨hold1 hb7 ‹_›, hold1 hb7 ‹_›, hold1 hb7 ‹_›, (‹Below w5.heap.size w5 _›).trans (hb7.mono (‹Below w5.heap.size w5 _›).size)⟩) | (go_split_ands; exact ⟨‹_›, ‹_›, ‹_›, ‹_›⟩))
      (first
        | (go_at_call 67; refine (cal_without_no A n c _).mono ?_; rintro e w6 ⟨rfl, rfl⟩)
        | (go_at_call 62; refine (ref_put6 A n c _ l a _ (HR5.out.1.below (Below.refl _ _).drew) (Nat.le_refl _) HL.out hc (by omega)).mono ?_; rintro e w7 ⟨⟨v7, k7, rfl, hown7, hat⟩, hb7⟩; obtain ⟨l7, hl7⟩ : ∃ l7, l7 = l.take k7 ++ a :: l.drop k7 := ⟨_, rfl⟩; have HL7 := hide hl7; rw [← hl7] at hown7; clear hl7; obtain ⟨A7, c7, rfl, hc7, -⟩ := hown7.shape))
    have hb57 : Below w5.heap.size w5 w7 := by go_split_ands; assumption
    obtain ⟨hs7, hp7⟩ := hat.put HWO.out.symm HSL.out
    rw [← HL7.out] at hs7 hp7
    have hcs := HC5.out l7 hs7 hp7
    have HCS := hide (hcs.below hb57)
    have HR7 := hide (RdB.fresh hown7 (X := Xb p g' (some b')) (fun k hk h => by have := hcs.wx k h; simp only [World.size_drew] at hk; omega))
    have HB7 := hide hb57
    clear hcs hs7 hp7 hb57 hown7 hat
    go_wp2_with fail
    go_ret2
    exact ⟨g', some b', d', L5, A7, _, c7, l7, rfl, HCS.out, HR7.out, rfl, hc7, HL5.out, hd5, HN5.out.then_ HB7.out, HX6.out⟩
theorem cal_step (p g n c K d : Nat) (m : Option Nat) (A : Option Addr) (L l : List En) (a : En) (w : World) (h : Cs w p g m d L l) (hr : RdB w (Xb p g m) A n l) (hl : l.length = n) (hc : n ≤ c) (hn : n ≤ 10000) (hL : L.length ≤ 10000) (hd : d ≤ 10000) (ha : wfE a) :
    Calls Try.prog 46 #[.pointer (some ⟨p, 0, none⟩), .slice A n c, .agg #[.int .i64 K, .int .i64 a.t, .int .i64 a.k, .int .i64 a.i]] w (StepC p g d m L w) := by
  have h8 : K % 8 < 8 := Nat.mod_lt _ (by omega)
  rcases (show K % 8 < 3 ∨ K % 8 = 3 ∨ (K % 8 = 4 ∨ K % 8 = 5) ∨ K % 8 = 6 ∨ K % 8 = 7 from by omega) with hk | hk | hk | hk | hk
  · exact cal_step_set p g n c K d m A L l a w h hr hl hc hn hL hd ha hk
  · exact cal_step_drop p g n c K d m A L l a w h hr hl hc hn hL hd ha hk
  · exact cal_step_pop p g n c K d m A L l a w h hr hl hc hn hL hd ha hk
  · exact cal_step_at p g n c K d m A L l a w h hr hl hc hn hL hd ha hk
  · exact cal_step_clear p g n c K d m A L l a w h hr hl hc hn hL hd ha hk
end Go.Proofs.Ytknmpfimnbenjaa
