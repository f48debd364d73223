/-
  The walks of the document's Put, Sorted; of slices.Equal of two rows of entries that are alike.
-/
import Derived.Test.YtknmpfimnbenjaaHeapPush
namespace Go.Proofs.Ytknmpfimnbenjaa
open Go.RowKit HB HeapP
set_option linter.unusedVariables false
set_option linter.unusedSimpArgs false
namespace HeapP
/-- where an entry is put -/
def At (l : List En) (a : En) (k : Nat) : Prop := k ≤ l.length ∧ (∀ x ∈ l.drop k, lt a x = true) ∧ (k = 0 ∨ ∃ y, l[k - 1]? = some y ∧ lt a y = false)
theorem At.srt {l : List En} {a : En} {k : Nat} (h : At l a k) (hs : Srt l) : Srt (l.take k ++ a :: l.drop k) := by
  refine put_srt hs (fun x hx => le_of_lt (h.2.1 x hx)) ?_
  rcases h.2.2 with h0 | ⟨y, hy, hlt⟩
  · subst h0; simp
  · rcases Nat.eq_zero_or_pos k with h0 | h0
    · subst h0; simp
    · exact srt_take hs h0 hy hlt
end HeapP
theorem ent_one (p : En) : ∀ u ∈ ent p, u.oneCell' = true := by simp [Value.oneCell']
theorem ent_ones (l : List En) : ∀ u ∈ l.flatMap ent, u.oneCell' = true := by
  intro u hu
  obtain ⟨x, _, hx⟩ := List.mem_flatMap.1 hu
  exact ent_one x u hx
def PutPost (l : List En) (a : En) (w : World) (e : Ending) (w' : World) : Prop :=
  (∃ v k, e = .returned v ∧ Own w' w.heap.size 70 3 ent v (l.take k ++ a :: l.drop k) ∧ At l a k) ∧ Below w.heap.size w w'
set_option maxRecDepth 100000 in
set_option maxHeartbeats 4000000 in
theorem ref_put6 (A : Option Addr) (n c B : Nat) (l : List En) (a : En) (w : World) (hr : Rd w B 3 A n (l.flatMap ent)) (hB : B ≤ w.heap.size) (hl : l.length = n) (hc : n ≤ c) (hn : n ≤ 1000000) :
    Calls Try.prog 62 #[.slice A n c, .agg #[.int .i64 a.t, .int .i64 a.k, .int .i64 a.i]] w (PutPost l a w) := by
  have Hl := hide hl
  have HR := hide hr
  clear hl hr
  go_enter Try.func62, Try.ntmps62
  go_wp2_with fail
  have HB0 := hide ((Below.refl w.heap.size w).alloc (Nat.le_refl _) (.cells #[.int .i64 a.t, .int .i64 a.k, .int .i64 a.i] 70))
  have HT := hide (Trio.new w 70 (.int .i64 a.t) (.int .i64 a.k) (.int .i64 a.i))
  generalize w.alloc (.cells #[.int .i64 a.t, .int .i64 a.k, .int .i64 a.i] 70) = w0 at *
  go_loopw [5] (fun si wr => ∃ k : Nat, si = .int .i64 k ∧ k ≤ n ∧ (∀ x ∈ l.drop k, lt a x = true) ∧ Below w0.heap.size w0 wr) (fun si _ => (intOf si).toNat)
  case atStart => exact ⟨n, rfl, Nat.le_refl _, by rw [List.drop_of_length_le (by rw [Hl.out]; exact Nat.le_refl _)]; simp, Below.refl _ _⟩
  case round =>
    obtain ⟨k, rfl, hk, hd, hbel⟩ := hrel
    have HD := hide hd
    have HT2 := hide (HT.out.below hbel)
    have hb0 := (HB0.out).trans (hbel.mono HB0.out.size)
    have HB2 := hide hb0
    have HBX := hide hbel
    have HR2 := hide (HR.out.below (hb0.mono hB))
    clear hd hbel hb0
    obtain ⟨r0, r1, r2, f0, f1, f2, hr0⟩ := HT2.out
    go_upto_region 2 with fail
    go_cut [19] (fun s wx => ∃ b : Bool, s = .bool b ∧ Below wr.heap.size wr wx ∧ (b = true → ∃ q, k = q + 1 ∧ ∀ x ∈ l.drop q, lt a x = true) ∧ (b = false → At l a k))
    case first =>
      by_cases hk0 : k = 0
      · subst hk0
        go_wp2_with fail
        go_quiet (fail)
        go_wp2_with fail
        go_meet
        exact ⟨false, rfl, below_drewN (Below.refl _ _) _, fun h => (by cases h), fun _ => ⟨Nat.zero_le _, HD.out, .inl rfl⟩⟩
      · obtain ⟨q, rfl⟩ : ∃ q, k = q + 1 := ⟨k - 1, by omega⟩
        obtain ⟨b, off, x, rfl, hb, hg, x0, x1, x2⟩ := HR2.out.ent_at Hl.out (show q < n by omega)
        have HG := hide hg
        have HLS2 := hide (fun w => ref_less a x w)
        have q1 : (0 : Int) < (q : Int) + 1 := by omega
        have q2 : (0 : Int) ≤ (q : Int) := by omega
        have q3 : (q : Int) < (n : Int) := by omega
        have q4 : IntKind.i64.wrap (q : Int) = (q : Int) := IntWalk.i64_in _ (by omega)
        clear hg
        go_region_held3 (fun w' => w'.cell? ⟨w.heap.size, 0, none⟩ = some (.int .i64 a.t) ∧ w'.cell? ⟨w.heap.size, 1, none⟩ = some (.int .i64 a.k) ∧ w'.cell? ⟨w.heap.size, 2, none⟩ = some (.int .i64 a.i) ∧ w'.cell? ⟨b, off + q * 3, none⟩ = some (.int .i64 x.t) ∧ w'.cell? ⟨b, off + q * 3 + 1, none⟩ = some (.int .i64 x.k) ∧ w'.cell? ⟨b, off + q * 3 + 2, none⟩ = some (.int .i64 x.i) ∧ Below wr.heap.size wr w')
          (first | (go_split_ands; exact ⟨hold1 hb4 ‹_›, hold1 hb4 ‹_›, hold1 hb4 ‹_›, hold1 hb4 ‹_›, hold1 hb4 ‹_›, hold1 hb4 ‹_›, (‹Below wr.heap.size wr _›).trans (hb4.mono (‹Below wr.heap.size wr _›).size)⟩) | (exact ⟨r0, r1, r2, x0, x1, x2, (Below.refl _ _).drew⟩))
          (first | (go_at_call 45; refine (HLS2.out _).mono ?_; rintro e w4 ⟨rfl, hb4⟩))
        all_goals
          go_wp2_with fail
          go_meet
          refine ⟨lt a x, rfl, by go_split_ands; assumption, fun h => ⟨q, rfl, ?_⟩, fun h => ⟨by rw [Hl.out]; omega, HD.out, .inr ⟨x, HG.out, h⟩⟩⟩
          intro y hy
          obtain ⟨hq, hq2⟩ := List.getElem?_eq_some_iff.1 HG.out
          rw [List.drop_eq_getElem_cons hq, hq2] at hy
          rcases List.mem_cons.1 hy with rfl | hy
          · exact h
          · exact HD.out y hy
    case rest =>
      obtain ⟨b, rfl, hbw, h1, h2⟩ := hcut
      have HBW := hide hbw
      cases b with
      | true =>
        obtain ⟨q, rfl, hq⟩ := h1 rfl
        have HQ := hide hq
        clear h1 h2 hbw hq r0 r1 r2 f0 f1 f2
        go_wp2_with fail
        go_roundw
        case rel => exact ⟨q, by go_num, by omega, HQ.out, HBX.out.trans (HBW.out.mono HBX.out.size)⟩
        case measure => simp [intOf]
      | false =>
        have HA := hide (h2 rfl)
        have HT3 := hide (HT2.out.below hbw)
        have HB3 := hide (HB2.out.trans (hbw.mono HB2.out.size))
        have HR3 := hide (HR2.out.below (hbw.mono (Nat.le_trans hB HB2.out.size)))
        clear h1 h2 hbw r0 r1 r2 f0 f1 f2
        obtain ⟨r0, r1, r2, f0, f1, f2, hr1⟩ := HT3.out
        have hfr := HR3.out.front hk
        rw [flat_take ent_len] at hfr
        have HFR := hide hfr
        have HLT := hide (show (l.take k).length = k by rw [List.length_take, Hl.out]; omega)
        have HLD := hide (show (l.drop k).length = n - k by rw [List.length_drop, Hl.out])
        have hcu := HR3.out.cut hk hc
        rw [flat_drop ent_len] at hcu
        clear hfr
        rcases Nat.eq_zero_or_pos n with hn0 | hn0
        · subst hn0
          obtain rfl : k = 0 := by omega
          by_cases hck : c = 0
          · rw [if_pos hck] at hcu
            have HCU := hide hcu
            subst hck
            clear hcu HR3 HR2
            cases A with
            | none =>
              go_wp2_with (first
                | (at_builtin; refine push rfl _ _ 64 rfl Try.underlying64 Ent.info rfl (by omega) (by omega) rfl (Own.nil _ (w.heap.size + 1) _ _ _) a ⟨_, 0, none⟩ 1 rfl rfl (ent_new _ _ _ _ _ _ rfl) (ent_one _) (by simp) (by go_size) ?_; intro v6 w6 hown6 hb6; have HO6 := hide hown6; have HB6 := hide (((Below.refl (w.heap.size + 1) wc).alloc (by omega) (.cells #[.int .i64 a.t, .int .i64 a.k, .int .i64 a.i] 70)).trans hb6); have hz6 : wc.heap.size ≤ w6.heap.size := HB6.out.size; clear hown6 hb6)
                | (at_builtin; refine pushAll rfl _ _ 64 rfl Try.underlying64 Ent.info rfl (by omega) (by omega) rfl HO6.out (l.drop 0) B _ 0 _ rfl HLD.out (HCU.out.below (HB6.out.mono (by omega))) (ent_ones _) (by simp) (by omega) (by omega) ?_; intro v7 w7 hown7 hb7; have HO7 := hide hown7; have HB7 := hide (HB6.out.trans hb7); clear hown7 hb7))
              go_ret
              exact ⟨⟨v7, 0, rfl, by have := HO7.out.small (Nat.le_succ _); simpa using this, HA.out⟩, HB3.out.trans (HB7.out.mono (Nat.le_succ _))⟩
            | some ad =>
              go_wp2_with (first
                | (at_builtin; refine push rfl _ _ 64 rfl Try.underlying64 Ent.info rfl (by omega) (by omega) rfl (Own.nil _ (w.heap.size + 1) _ _ _) a ⟨_, 0, none⟩ 1 rfl rfl (ent_new _ _ _ _ _ _ rfl) (ent_one _) (by simp) (by go_size) ?_; intro v6 w6 hown6 hb6; have HO6 := hide hown6; have HB6 := hide (((Below.refl (w.heap.size + 1) wc).alloc (by omega) (.cells #[.int .i64 a.t, .int .i64 a.k, .int .i64 a.i] 70)).trans hb6); have hz6 : wc.heap.size ≤ w6.heap.size := HB6.out.size; clear hown6 hb6)
                | (at_builtin; refine pushAll rfl _ _ 64 rfl Try.underlying64 Ent.info rfl (by omega) (by omega) rfl HO6.out (l.drop 0) B _ 0 _ rfl HLD.out (HCU.out.below (HB6.out.mono (by omega))) (ent_ones _) (by simp) (by omega) (by omega) ?_; intro v7 w7 hown7 hb7; have HO7 := hide hown7; have HB7 := hide (HB6.out.trans hb7); clear hown7 hb7))
              go_ret
              exact ⟨⟨v7, 0, rfl, by have := HO7.out.small (Nat.le_succ _); simpa using this, HA.out⟩, HB3.out.trans (HB7.out.mono (Nat.le_succ _))⟩
          · rw [if_neg hck] at hcu
            have HCU := hide hcu
            clear hcu HR3 HR2
            cases A with
            | none =>
              go_wp2_with (first
                | (at_builtin; refine push rfl _ _ 64 rfl Try.underlying64 Ent.info rfl (by omega) (by omega) rfl (Own.nil _ (w.heap.size + 1) _ _ _) a ⟨_, 0, none⟩ 1 rfl rfl (ent_new _ _ _ _ _ _ rfl) (ent_one _) (by simp) (by go_size) ?_; intro v6 w6 hown6 hb6; have HO6 := hide hown6; have HB6 := hide (((Below.refl (w.heap.size + 1) wc).alloc (by omega) (.cells #[.int .i64 a.t, .int .i64 a.k, .int .i64 a.i] 70)).trans hb6); have hz6 : wc.heap.size ≤ w6.heap.size := HB6.out.size; clear hown6 hb6)
                | (at_builtin; refine pushAll rfl _ _ 64 rfl Try.underlying64 Ent.info rfl (by omega) (by omega) rfl HO6.out (l.drop 0) B _ 0 _ rfl HLD.out (HCU.out.below (HB6.out.mono (by omega))) (ent_ones _) (by simp) (by omega) (by omega) ?_; intro v7 w7 hown7 hb7; have HO7 := hide hown7; have HB7 := hide (HB6.out.trans hb7); clear hown7 hb7))
              go_ret
              exact ⟨⟨v7, 0, rfl, by have := HO7.out.small (Nat.le_succ _); simpa using this, HA.out⟩, HB3.out.trans (HB7.out.mono (Nat.le_succ _))⟩
            | some ad =>
              go_wp2_with (first
                | (at_builtin; refine push rfl _ _ 64 rfl Try.underlying64 Ent.info rfl (by omega) (by omega) rfl (Own.nil _ (w.heap.size + 1) _ _ _) a ⟨_, 0, none⟩ 1 rfl rfl (ent_new _ _ _ _ _ _ rfl) (ent_one _) (by simp) (by go_size) ?_; intro v6 w6 hown6 hb6; have HO6 := hide hown6; have HB6 := hide (((Below.refl (w.heap.size + 1) wc).alloc (by omega) (.cells #[.int .i64 a.t, .int .i64 a.k, .int .i64 a.i] 70)).trans hb6); have hz6 : wc.heap.size ≤ w6.heap.size := HB6.out.size; clear hown6 hb6)
                | (at_builtin; refine pushAll rfl _ _ 64 rfl Try.underlying64 Ent.info rfl (by omega) (by omega) rfl HO6.out (l.drop 0) B _ 0 _ rfl HLD.out (HCU.out.below (HB6.out.mono (by omega))) (ent_ones _) (by simp) (by omega) (by omega) ?_; intro v7 w7 hown7 hb7; have HO7 := hide hown7; have HB7 := hide (HB6.out.trans hb7); clear hown7 hb7))
              go_ret
              exact ⟨⟨v7, 0, rfl, by have := HO7.out.small (Nat.le_succ _); simpa using this, HA.out⟩, HB3.out.trans (HB7.out.mono (Nat.le_succ _))⟩
        · obtain ⟨b, off, rfl, hb, -⟩ := HR3.out.2 hn0
          have i0 : (0 : Int) ≤ (k : Int) := by omega
          have i1 : (k : Int) ≤ (n : Int) := by omega
          have i2 : (n : Int) ≤ (c : Int) := by omega
          by_cases hck : c = k
          · rw [if_pos hck] at hcu
            have hnk : n = k := by omega
            have hnz : ¬ k = 0 := by omega
            subst hck
            subst hnk
            rw [Nat.sub_self] at hcu
            have HCU := hide hcu
            have hld := HLD.out
            rw [Nat.sub_self] at hld
            have HLD := hide hld
            clear hcu hld HR3 HR2
            go_wp2_with (first
              | (at_builtin; (refine pushAll rfl _ _ 64 rfl Try.underlying64 Ent.info rfl (by omega) (by omega) rfl (Own.nil _ (w.heap.size + 1) _ _ _) (l.take n) B _ n _ rfl HLT.out HFR.out (ent_ones _) (by simp) (by omega) (by omega) ?_; intro v5 w5 hown5 hb5; have HO5 := hide hown5; have HB5 := hide hb5; have s0 := (hb5.cell (p := ⟨w.heap.size, 0, none⟩) (Nat.lt_succ_self _)).trans r0; have s1 := (hb5.cell (p := ⟨w.heap.size, 1, none⟩) (Nat.lt_succ_self _)).trans r1; have s2 := (hb5.cell (p := ⟨w.heap.size, 2, none⟩) (Nat.lt_succ_self _)).trans r2; have hz5 := hb5.size; clear hown5 hb5 r0 r1 r2 f0 f1 f2))
              | (at_builtin; refine push rfl _ _ 64 rfl Try.underlying64 Ent.info rfl (by omega) (by omega) rfl (HO5.out.alloc _) a ⟨_, 0, none⟩ 1 rfl rfl (ent_new _ _ _ _ _ _ rfl) (ent_one _) (by simp; omega) (by go_size) ?_; intro v6 w6 hown6 hb6; have HO6 := hide hown6; have HB6 := hide (((HB5.out).alloc (by omega) (.cells #[.int .i64 a.t, .int .i64 a.k, .int .i64 a.i] 70)).trans hb6); have hz6 : wc.heap.size ≤ w6.heap.size := HB6.out.size; clear hown6 hb6 s0 s1 s2)
              | (at_builtin; (refine pushAll rfl _ _ 64 rfl Try.underlying64 Ent.info rfl (by omega) (by omega) rfl HO6.out (l.drop n) B _ 0 _ rfl HLD.out (HCU.out.below (HB6.out.mono (by omega))) (ent_ones _) (by simp; omega) (by omega) (by omega) ?_; intro v7 w7 hown7 hb7; have HO7 := hide hown7; have HB7 := hide (HB6.out.trans hb7); clear hown7 hb7)))
            go_ret
            exact ⟨⟨v7, n, rfl, by have := HO7.out.small (Nat.le_succ _); simpa using this, HA.out⟩, HB3.out.trans (HB7.out.mono (Nat.le_succ _))⟩
          · rw [if_neg hck] at hcu
            have hadd : (⟨b, off, none⟩ : Addr).add (k * 3) = ⟨b, off + k * 3, none⟩ := by
              unfold Addr.add
              split
              · rename_i h; rw [h]; rfl
              · rfl
            simp only [Option.map_some, hadd] at hcu
            clear hadd
            have HCU := hide hcu
            clear hcu HR3 HR2
            go_wp2_with (first
              | (at_builtin; (refine pushAll rfl _ _ 64 rfl Try.underlying64 Ent.info rfl (by omega) (by omega) rfl (Own.nil _ (w.heap.size + 1) _ _ _) (l.take k) B _ k _ rfl HLT.out HFR.out (ent_ones _) (by simp) (by omega) (by omega) ?_; intro v5 w5 hown5 hb5; have HO5 := hide hown5; have HB5 := hide hb5; have s0 := (hb5.cell (p := ⟨w.heap.size, 0, none⟩) (Nat.lt_succ_self _)).trans r0; have s1 := (hb5.cell (p := ⟨w.heap.size, 1, none⟩) (Nat.lt_succ_self _)).trans r1; have s2 := (hb5.cell (p := ⟨w.heap.size, 2, none⟩) (Nat.lt_succ_self _)).trans r2; have hz5 := hb5.size; clear hown5 hb5 r0 r1 r2 f0 f1 f2))
              | (at_builtin; refine push rfl _ _ 64 rfl Try.underlying64 Ent.info rfl (by omega) (by omega) rfl (HO5.out.alloc _) a ⟨_, 0, none⟩ 1 rfl rfl (ent_new _ _ _ _ _ _ rfl) (ent_one _) (by simp; omega) (by go_size) ?_; intro v6 w6 hown6 hb6; have HO6 := hide hown6; have HB6 := hide (((HB5.out).alloc (by omega) (.cells #[.int .i64 a.t, .int .i64 a.k, .int .i64 a.i] 70)).trans hb6); have hz6 : wc.heap.size ≤ w6.heap.size := HB6.out.size; clear hown6 hb6 s0 s1 s2)
              | (at_builtin; (refine pushAll rfl _ _ 64 rfl Try.underlying64 Ent.info rfl (by omega) (by omega) rfl HO6.out (l.drop k) B _ (n - k) _ rfl HLD.out (HCU.out.below (HB6.out.mono (by omega))) (ent_ones _) (by simp; omega) (by omega) (by omega) ?_; intro v7 w7 hown7 hb7; have HO7 := hide hown7; have HB7 := hide (HB6.out.trans hb7); clear hown7 hb7)))
            go_ret
            exact ⟨⟨v7, k, rfl, by have := HO7.out.small (Nat.le_succ _); simpa using this, HA.out⟩, HB3.out.trans (HB7.out.mono (Nat.le_succ _))⟩
end Go.Proofs.Ytknmpfimnbenjaa
