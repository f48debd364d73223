/-
  The law HistCounts holds: whatever the bins, the width and the numbers, the call returns true and turns nothing. No condition.
-/
import Derived.Test.YtkgkilogjodccaaRows
import Derived.Test.YtkgkilogjodccaaFrame
import Derived.Test.YtkgkilogjodccaaHist
namespace Go.Proofs.Ytkgkilogjodccaa
open Go.ChangeShapes Go.WideShapes Go.ChangeAt Go.RowKit HB HistP
set_option linter.unusedVariables false
set_option linter.unusedSimpArgs false

theorem Hist.prod {k d : Int} (h0 : 0 ≤ k) (h1 : k ≤ 64) (d1 : 1 ≤ d) (d2 : d ≤ 4096) : 0 ≤ k * d ∧ k * d ≤ 262144 ∧ 0 ≤ (k + 1) * d ∧ (k + 1) * d ≤ 266240 ∧ (k + 1) * d = k * d + d := by
  have a := Int.mul_nonneg h0 (show 0 ≤ d by omega)
  have b : k * d ≤ 64 * d := Int.mul_le_mul_of_nonneg_right h1 (by omega)
  have c : (k + 1) * d = k * d + d := by rw [Int.add_mul, Int.one_mul]
  omega
set_option maxHeartbeats 1000000 in
theorem bin_law (b d n : Int) (h : right b d = true) (hn : 0 ≤ n) (hn1 : n ≤ 9223372036854775807) (w : World) : Calls Try.prog 30 #[.int .i64 b, .int .i64 d, .int .i64 n] w fun e w' => e = .returned (.int .i64 (binOf b d n)) ∧ w = w' := by
  obtain ⟨b1, b2, d1, d2⟩ := right_yes h
  clear h
  go_enter Try.func30, Try.ntmps30
  go_wp2_with fail
  go_loop [7] (fun i => ∃ k : Int, 0 ≤ k ∧ k ≤ b - 1 ∧ i = .int .i64 k ∧ k * d ≤ n) (fun i => (b - intOf i).toNat)
  case atStart => exact ⟨0, by omega, by omega, rfl, by omega⟩
  case round =>
    obtain ⟨k, k0, k1, rfl, hk⟩ := hrel
    obtain ⟨p0, p1, p2, p3, -⟩ := Hist.prod (k := k) k0 (by omega) d1 d2
    by_cases hl : k < b - 1
    · by_cases hg : (k + 1) * d ≤ n
      · go_wp2_with fail
        go_round
        case rel => exact ⟨k + 1, by omega, by omega, rfl, hg⟩
        case measure => simp [intOf]; omega
      · have e := hide (bin_mid (b := b) d1 k1 hk (by omega))
        go_wp2_with fail
        go_ret
        exact ⟨ret_int e.out.symm, rfl⟩
    · have e := hide (bin_last (b := b) (i := k) d1 (by omega) hk)
      go_wp2_with fail
      go_ret
      exact ⟨ret_int e.out.symm, rfl⟩

set_option maxRecDepth 100000 in
set_option maxHeartbeats 2000000 in
theorem histCounts_no (A : Option Addr) (n c : Nat) (b d : Int) (h : right b d = false) (w : World) (hn : n ≤ 200) :
    Calls Try.prog 6 #[.int .i64 b, .int .i64 d, .slice A n c] w fun e w' => e = .returned (.bool true) ∧ Below w.heap.size w w' := by
  have HR := hide h
  have E1 := hide (show Hist.bin b d 1 = (0, 22) by unfold Hist.bin; rw [h]; rfl)
  have dn : decide (200 < n) = false := by simp; omega
  clear h
  go_enter Try.func6, Try.ntmps6
  go_wp2_with (first
    | (go_at_call 26; refine (right_law _ _ _).mono ?_; rintro e w' ⟨rfl, rfl⟩; simp only [HR.out])
    | (go_at_call 28; refine (hist_right _ _ _).mono ?_; rintro e w' ⟨rfl, rfl⟩; simp only [HR.out])
    | (go_at_call 25; refine (hist_of_no A n c b d HR.out _).mono ?_; rintro e w1 ⟨rfl, rfl⟩)
    | (go_at_call 27; refine (hist_bin _ _ _ (by omega) _).mono ?_; rintro e w' ⟨rfl, rfl⟩; simp only [E1.out])
    | (go_at_call 29; refine (hist_alive _).mono ?_; rintro e w9 ⟨rfl, hb9⟩))
  go_ret
  exact ⟨rfl, hb9⟩

/-- What the law's loop keeps: the row of counts, and whether a number was below 0. -/
def Hist.Rel2 (ts : List Int) (d : Int) (m : Nat) (w0 w : World) (f i : Value) (wr : World) : Prop :=
  ∃ (k : Nat) (fb : Bool), k ≤ ts.length ∧ i = .int .i64 k ∧ f = .bool fb ∧ (fb = false ↔ ∀ t ∈ ts.take k, 0 ≤ t) ∧ Own wr w.heap.size 3 1 (num .i64) (.slice (some ⟨w.heap.size, 0, none⟩) m m) (counts m d m (ts.take k)) ∧ Below w0.heap.size w0 wr ∧ Below w.heap.size w wr ∧ w0.heap.size ≤ w.heap.size

set_option maxRecDepth 100000 in
set_option maxHeartbeats 8000000 in
theorem histCounts_yes (A : Option Addr) (n c m : Nat) (ts : List Int) (d : Int) (w : World) (hr : Rd w w.heap.size 1 A n (ts.map (Value.int .i64))) (hl : ts.length = n) (hw : ∀ x ∈ ts, (Lit.int .i64 x).wf = true) (hrt : right m d = true) (hn : n ≤ 200) :
    Calls Try.prog 6 #[.int .i64 m, .int .i64 d, .slice A n c] w fun e w' => e = .returned (.bool true) ∧ Below w.heap.size w w' := by
  obtain ⟨b1, b2, d1, d2⟩ := right_yes hrt
  have hmk := fun (W : World) => run_make_row' (P := Try.prog) 35 3 (.int .i64 0) 8 Try.underlying35 Hist.info rfl .i64 .i64 m (by omega) (by omega) W
  have HMK := hide hmk
  have Hl := hide hl
  have Hw := hide hw
  have HR := hide hrt
  have dn : decide (200 < n) = false := by simp; omega
  clear hl hw hrt hmk
  go_enter Try.func6, Try.ntmps6
  go_wp2_with fail
  refine (hist_of A n c w.heap.size m ts d _ hr (Nat.le_refl _) Hl.out hn Hw.out HR.out).mono ?_; rintro e w1 ⟨hb1, hpost⟩
  have hr1 := hr.below hb1
  have hown0 := Own.made (base := w1.heap.size) (k := .i64) w1 3 m (Nat.le_refl _) (by omega)
  rw [← counts_nil m d] at hown0
  have Ho := hide hown0
  clear hown0
  have hmk := HMK.out
  have hP : ∃ (v : Value) (er : Int), e = .returned (.tuple #[v, .int .i64 er]) ∧ ((¬ (∀ t ∈ ts, 0 ≤ t) ∧ v = .slice none 0 0 ∧ er = 10) ∨ ((∀ t ∈ ts, 0 ≤ t) ∧ er = 0 ∧ Own w1 w.heap.size 3 1 (num .i64) v (counts m d m ts))) := by
    rcases hpost with ⟨h, rfl⟩ | ⟨h, v, rfl, ho⟩
    · exact ⟨_, _, rfl, .inl ⟨h, rfl, rfl⟩⟩
    · exact ⟨v, _, rfl, .inr ⟨h, rfl, ho⟩⟩
  clear hpost
  obtain ⟨v, er, rfl, hP⟩ := hP
  have HP := hide hP
  clear hP HMK
  go_wp2_with (go_at_call 26; refine (right_law _ _ _).mono ?_; rintro e w' ⟨rfl, rfl⟩; simp only [HR.out])
  clear hmk
  have hz1 := hb1.size
  go_loopw [12, 13] (fun f i wr => Hist.Rel2 ts d m w w1 f i wr) (fun _ i _ => n - (intOf i).toNat)
  case atStart => exact ⟨0, false, Nat.zero_le _, rfl, rfl, by simp, Ho.out, hb1.alloc hz1 _, (Below.refl _ _).alloc (Nat.le_refl _) _, hz1⟩
  case round =>
    obtain ⟨k, fb, hk, rfl, rfl, hfb, hown, hbel, hbel1, _⟩ := hrel
    rw [Hl.out] at hk
    have HF := hide hfb
    have HO := hide hown
    clear hfb hown
    by_cases hlt : k < n
    · obtain ⟨b, off, x, rfl, hb, hg, c0⟩ := (hr.below hbel).int_at Hl.out hlt
      have hwx := bounds_i64 (Hw.out x (List.mem_of_getElem? hg))
      have htk := hide (show ts.take (k + 1) = ts.take k ++ [x] by rw [List.take_add_one, hg]; rfl)
      have hlk : (ts.take k).length ≤ 200 := by rw [List.length_take, Hl.out]; omega
      clear hg
      by_cases hx : x < 0
      · have E := hide (show Hist.bin m d x = (0, 10) by unfold Hist.bin; rw [HR.out, if_pos rfl, if_pos hx])
        go_wp2_with (go_at_call 27; refine (hist_bin _ _ _ hwx.2 _).mono ?_; rintro e w' ⟨rfl, rfl⟩; simp only [E.out])
        go_roundw
        case rel => exact ⟨k + 1, true, by rw [Hl.out]; omega, by go_num, rfl, by rw [htk.out]; simp; exact .inr hx, by rw [htk.out, counts_out hx]; exact HO.out, hbel, hbel1, hz1⟩
        case measure => simp [intOf]; omega
      · have hx0 : 0 ≤ x := by omega
        have E := hide (show Hist.bin m d x = (binOf m d x, 0) by unfold Hist.bin; rw [HR.out, if_pos rfl, if_neg hx])
        obtain ⟨p0, p1⟩ := binOf_range b1 d1 hx0
        obtain ⟨q, hq⟩ := Int.eq_ofNat_of_zero_le p0
        rw [hq] at p1
        obtain ⟨y, hy, cy, fy⟩ := HO.out.int_at (counts_length _ _ _ _) (j := q) (by omega)
        have hyq := counts_get (by omega) hy
        have hr1 := cnt_range m d (ts.take k) q
        rw [← hyq] at hr1
        have HY := hide hyq
        have hst := hide (HO.out.store (counts_length _ _ _ _) q (y + 1))
        clear hy hyq
        have p2 : (0 : Int) ≤ (q : Int) := by omega
        have Hq := hide hq
        clear hq
        go_wp2_with (first
          | (go_at_call 27; refine (hist_bin _ _ _ hwx.2 _).mono ?_; rintro e w' ⟨rfl, rfl⟩; simp only [E.out, Hq.out])
          | (go_at_call 30; refine (bin_law _ _ _ HR.out hx0 hwx.2 _).mono ?_; rintro e w' ⟨rfl, rfl⟩; simp only [Hq.out]))
        go_roundw
        case rel =>
          refine ⟨k + 1, fb, by rw [Hl.out]; omega, by go_num, rfl, ?_, ?_, hbel.trans (hst.out.2.mono hz1), hbel1.trans hst.out.2, hz1⟩
          · rw [HF.out, htk.out]
            refine ⟨fun h t ht => ?_, fun h t ht => h t (List.mem_append.2 (.inl ht))⟩
            rcases List.mem_append.1 ht with h2 | h2
            · exact h t h2
            · simp at h2; omega
          · rw [htk.out, ← counts_in hx0 Hq.out, ← HY.out]
            exact hst.out.1
        case measure => simp [intOf]; omega
    · have hf : ts.take k = ts := List.take_of_length_le (by rw [Hl.out]; omega)
      have hF2 := HF.out
      have hO2 := HO.out
      rw [hf] at hF2 hO2
      have HF2 := hide hF2
      have HO2 := hide hO2
      clear hF2 hO2 hf HF HO
      cases fb with
      | true =>
        have hno : ¬ (∀ t ∈ ts, 0 ≤ t) := fun h => by have := HF2.out.2 h; cases this
        rcases HP.out with ⟨_, rfl, rfl⟩ | ⟨h, _⟩
        · clear hno
          go_wp2_with (go_at_call 29; refine (hist_alive _).mono ?_; rintro e w9 ⟨rfl, hb9⟩)
          go_ret
          exact ⟨rfl, then_ hbel hb9 (Nat.le_refl _)⟩
        · exact absurd h hno
      | false =>
        have hall := HF2.out.1 rfl
        rcases HP.out with ⟨h, _⟩ | ⟨_, rfl, hv⟩
        · exact absurd hall h
        have hsum := hide (sum_counts (b := m) (m := m) rfl b1 d1 ts hall)
        have hAll := hide hall
        obtain ⟨A2, c2, rfl, hc2, hrd2⟩ := (hv.below hbel1).ints
        obtain ⟨A3, c3, hA3, hc3, hrd3⟩ := HO2.out.ints
        rw [counts_length] at hc2 hrd2 hA3 hc3 hrd3
        simp only [Value.slice.injEq, true_and] at hA3
        obtain ⟨rfl, rfl⟩ := hA3
        simp only [counts_length]
        have R2 := hide hrd2
        have R3 := hide hrd3
        clear hall hv hrd2 hrd3
        go_wp2_with fail
        refine (eqInt _ _ _ _ _ _ _ _ _ _ _ R2.out R3.out (by omega) (by omega)).mono ?_; rintro e w3 ⟨rfl, mm, rfl⟩
        simp only [decide_true]
        go_wp2_with fail
        refine (hist_right _ _ _).mono ?_; rintro e w' ⟨rfl, rfl⟩; simp only [HR.out]
        go_wp2_with fail
        refine (hist_total _ _ _ _ _ _ (R2.out.drewN _) (counts_length _ _ _ _) (by omega) ?_).mono ?_
        · intro j
          have hb := sum_bound (c := 200) ((counts m d m ts).take j) (fun y hy => by
            have hy' := List.mem_of_mem_take hy
            unfold counts at hy'
            obtain ⟨q, _, rfl⟩ := List.mem_map.1 hy'
            have := cnt_range m d ts q
            rw [Hl.out] at this; omega)
          have hlen : ((counts m d m ts).take j).length ≤ 64 := by rw [List.length_take, counts_length]; omega
          omega
        rintro e w' ⟨rfl, rfl⟩; simp only [hsum.out, Hl.out]
        go_wp2_with (go_at_call 29; refine (hist_alive _).mono ?_; rintro e w9 ⟨rfl, hb9⟩)
        go_ret
        exact ⟨rfl, then_ (below_drewN hbel _) hb9 (Nat.le_refl _)⟩

theorem histCounts_walk (A : Option Addr) (n c : Nat) (ts : List Int) (b d : Int) (w : World) (hr : Rd w w.heap.size 1 A n (ts.map (Value.int .i64))) (hl : ts.length = n) (hw : ∀ x ∈ ts, (Lit.int .i64 x).wf = true) :
    Calls Try.prog 6 #[.int .i64 b, .int .i64 d, .slice A n c] w fun e w' => e = .returned (.bool true) ∧ Below w.heap.size w w' := by
  by_cases hbig : 200 < n
  · go_enter Try.func6, Try.ntmps6
    go_wp2_with fail
    go_ret
    exact ⟨rfl, Below.refl _ _⟩
  · cases hrt : right b d with
    | false => exact histCounts_no A n c b d hrt w (by omega)
    | true =>
      obtain ⟨m, rfl⟩ := Int.eq_ofNat_of_zero_le (show 0 ≤ b by have := (right_yes hrt).1; omega)
      exact histCounts_yes A n c m ts d w hr hl hw hrt (by omega)

set_option maxRecDepth 100000 in
theorem histCounts_lifted (os : Os) (started : os.Started) (H : Type) (enc : TypeId × Value → H) :
    ReturnsInHanded {} Try.checked os 6 .any (Rows.histCountsSpec.pre6 enc Try.prog Try.f6 [] false) (Rows.histCountsSpec.post enc Try.prog Try.f6 false true false false) := by
  refine law_lifted (C := Try.checked) Try.own started (by kernel_rfl) Try.func6
    (ChangeSpec.witness6 (enc := enc) (C := Try.checked) false ⟨#[], #[.int .i64 0, .int .i64 0, .slice none 0 0], []⟩ 8 (by kernel_rfl) (by kernel_rfl) (by kernel_rfl) (by kernel_rfl))
    Try.laidOut (show ∀ t ∈ [3, 3, 35], Try.prog.readableRec t = true ∧ t < Try.prog.types.size from by
      intro t ht; simp only [List.mem_cons, List.not_mem_nil, or_false] at ht; rcases ht with rfl | rfl | rfl <;> exact ⟨by kernel_rfl, of_decide_eq_true (by kernel_rfl)⟩) (tb := 4) (by kernel_rfl) Try.underlying4 rfl (fun ds hd => ?_) ?_
  · match ds, hd with
    | [_, _, _], _ => rfl
  · intro W base args ds p hval hA
    have hval' : ∀ (j : Nat) t v, Try.f6.params[j]? = some t → args[j]? = some v → Value.okWide Try.prog W .any base t v := hval
    rw [Try.params6] at hA hval'
    obtain ⟨v0, v1, v2, d0, d1, d2, p0, p1, p2, rfl, rfl, rfl, h0, h1, h2⟩ := trodAll_three hA
    obtain ⟨a0, rfl, w0⟩ := arg_int Try.underlying3 (hval' 0 _ _ rfl rfl) h0
    obtain ⟨a1, rfl, w1⟩ := arg_int Try.underlying3 (hval' 1 _ _ rfl rfl) h1
    obtain ⟨A, n, c, ts, rfl, hl, hc, _, hw, hr⟩ := arg_ints Try.underlying35 Try.underlying3 (by kernel_rfl) (hval' 2 _ _ rfl rfl) h2
    exact histCounts_walk A n c ts a0 a1 W hr hl hw

theorem histCounts_holds : Rows.HistCountsSaid :=
  OpenClaim.holds_of_wide 6 Try.f6 rfl rfl rfl rfl rfl rfl rfl ⟨rfl, rfl, rfl, rfl, rfl⟩ rfl rfl rfl rfl rfl (by kernel_rfl) Try.func6 (by kernel_rfl)
    (of_decide_eq_true (by kernel_rfl)) (by unfold Func.isWrapper; first | (rw [if_pos (by decide +kernel)]; kernel_rfl) | (rw [if_neg (by decide +kernel)]; exact ⟨rfl, rfl⟩))
    (fun os started H enc _ => histCounts_lifted os started H enc)
#print axioms histCounts_holds
end Go.Proofs.Ytkgkilogjodccaa
