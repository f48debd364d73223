/-
  The walk of the law's step (chapter 06): Until.
-/
import Derived.Test.YtknmpfimnbenjaaHeapStep
namespace Go.Proofs.Ytknmpfimnbenjaa
open Go.RowKit HB HeapP
set_option linter.unusedVariables false
set_option linter.unusedSimpArgs false
set_option maxRecDepth 100000 in
set_option maxHeartbeats 8000000 in
theorem heap_step_until (p g n c K : Nat) (A : Option Addr) (L l : List En) (a : En) (w : World) (h : Hp w p g L) (hh : IsHeap L) (hr : RdX w p g A n l) (hl : l.length = n) (hc : n ≤ c) (hs : Srt l) (hp : l.Perm L) (hn : n ≤ 100000) (hK : K % 6 = 5) :
    Calls Try.prog 38 #[.pointer (some ⟨p, 0, none⟩), .slice A n c, .agg #[.int .i64 K, .int .i64 a.t, .int .i64 a.k, .int .i64 a.i]] w (StepP p g n w) := by
  have hLl : L.length = n := by rw [← hp.length_eq]; exact hl
  have HB0 := hide ((Below.refl w.heap.size w).alloc (Nat.le_refl _) (.cells #[.int .i64 K, .int .i64 a.t, .int .i64 a.k, .int .i64 a.i] 72))
  have HR0 := hide (hr.only (g := g) (Only.of_below (p := p) HB0.out) (.inl rfl))
  have HHP := hide (h.below HB0.out)
  have HON0 := hide (Only.of_below (p := p) (g := g) HB0.out)
  have HL := hide hl
  have HLl := hide hLl
  have HS := hide hs
  have HPM := hide hp
  have HHI := hide hh
  have e1 : (K : Int).tmod 6 = 5 := by rw [Int.tmod_eq_emod_of_nonneg (by omega)]; omega
  have e2 : (K : Int) % 6 = 5 := by omega
  have HNE := hide (show w.heap.size ≠ p ∧ w.heap.size ≠ g by have := h.pl; have := h.gl; omega)
  have hc1 : (w.alloc (.cells #[.int .i64 K, .int .i64 a.t, .int .i64 a.k, .int .i64 a.i] 72)).cell? ⟨w.heap.size, 1, none⟩ = some (.int .i64 a.t) := by
    rw [cell_of_row _ w.heap.size 1 _ 72 (0, 0) (heap_alloc_new w _)]; simp
  clear h hh hr hl hs hp hLl
  go_enter Try.func38, Try.ntmps38
  go_wp2_with fail
  generalize w.alloc (.cells #[.int .i64 K, .int .i64 a.t, .int .i64 a.k, .int .i64 a.i] 72) = w0 at *
  generalize hrr : w.heap.size = r at *
  have HC1 := hide hc1
  clear hc1
  go_loopw [10] (fun i wr => ∃ (k : Nat), k ≤ n ∧ i = .int .i64 k ∧ (∀ x ∈ l.take k, x.t ≤ a.t) ∧ Below w0.heap.size w0 wr) (fun i _ => n - (intOf i).toNat)
  case atStart => exact ⟨0, Nat.zero_le _, rfl, by simp, Below.refl _ _⟩
  case round =>
    obtain ⟨k, hk, rfl, htk, hbm⟩ := hrel
    have HTK := hide htk
    have HBM := hide hbm
    have HRX := hide (HR0.out.only (g := g) (Only.of_below (p := p) hbm) (.inl rfl))
    have HHW := hide (HHP.out.below hbm)
    have HON := hide (HON0.out.then_ hbm)
    have c1 := hold1 hbm HC1.out
    clear htk hbm
    by_cases hgo : k < n ∧ ∃ x, l[k]? = some x ∧ x.t ≤ a.t
    · obtain ⟨hlt, x, hx, hxt⟩ := hgo
      obtain ⟨b, off, x', rfl, hb, hg, x0, x1, x2⟩ := HRX.out.1.ent_at HL.out hlt
      rw [hx] at hg
      simp only [Option.some.injEq] at hg
      subst hg
      have HTK2 := hide (show ∀ y ∈ l.take (k + 1), y.t ≤ a.t from fun y hy => by
        rw [List.take_add_one, hx] at hy
        rcases List.mem_append.1 hy with hy | hy
        · exact HTK.out y hy
        · simp at hy; subst hy; exact hxt)
      have i0 : (0 : Int) ≤ (k : Int) := by omega
      have i1 : (k : Int) < (n : Int) := by omega
      clear hx
      go_wp2_with fail
      go_quiet (fail)
      go_wp2_with fail
      go_roundw
      case rel => exact ⟨k + 1, by omega, by go_num, HTK2.out, below_drewN HBM.out _⟩
      case measure => simp [intOf]; omega
    · have HEX := hide (show k = l.length ∨ ∃ y, l[k]? = some y ∧ ¬ y.t ≤ a.t from by
        rw [HL.out]
        rcases Nat.lt_or_ge k n with h | h
        · right
          obtain ⟨y, hy⟩ : ∃ y, l[k]? = some y := ⟨_, List.getElem?_eq_getElem (by rw [HL.out]; exact h)⟩
          exact ⟨y, hy, fun ht => hgo ⟨h, y, hy, ht⟩⟩
        · left; omega)
      clear hgo
      go_upto_region 10 with fail
      go_cut [59] (fun s wx => s = .bool false ∧ Below wr.heap.size wr wx)
      case first =>
        by_cases hlt : k < n
        · obtain ⟨b, off, x', rfl, hb, hg, x0, x1, x2⟩ := HRX.out.1.ent_at HL.out hlt
          have hxt : ¬ x'.t ≤ a.t := by
            rcases HEX.out with h | ⟨y, hy, ht⟩
            · rw [HL.out] at h; omega
            · rw [hy] at hg; injection hg with hg; subst hg; exact ht
          have i0 : (0 : Int) ≤ (k : Int) := by omega
          have i1 : (k : Int) < (n : Int) := by omega
          clear hg
          go_wp2_with fail
          go_quiet (fail)
          go_wp2_with fail
          go_meet
          exact ⟨by simp [hxt], below_drewN (Below.refl _ _) _⟩
        · have hd : decide ((k : Int) < (n : Int)) = false := by simp; omega
          go_wp2_with fail
          go_quiet (fail)
          go_wp2_with fail
          go_meet
          exact ⟨rfl, below_drewN (Below.refl _ _) _⟩
      case rest =>
        obtain ⟨rfl, hbw⟩ := hcut
        have HRX2 := hide (HRX.out.only (g := g) (Only.of_below (p := p) hbw) (.inl rfl))
        have HHW2 := hide (HHW.out.below hbw)
        have HON2 := hide (HON.out.then_ hbw)
        have c2 := hold1 hbw c1
        clear HRX HHW HON c1 hbw HR0 HHP HON0 HB0 HBM
        generalize wc = wr at *
        have HRX := hide HRX2.out
        have HON := hide HON2.out
        have c1 := c2
        have HUN := hide (heap_until p g n L a.t wr.drew (HHW2.out.drew) HHI.out HLl.out (by omega))
        have HLT := hide (show (l.take k).length = k by rw [List.length_take, HL.out]; omega)
        have HLD := hide (show (l.drop k).length = n - k by rw [List.length_drop, HL.out])
        have HSD := hide (HS.out.sublist (List.drop_sublist k l))
        have HKL := hide (show k ≤ l.length by rw [HL.out]; exact hk)
        have HKN := hide hk
        clear HRX2 HON2 HHW2 c2
        have hcu := HRX.out.cut hk hc
        rcases Nat.eq_zero_or_pos n with hn0 | hn0
        · subst hn0
          obtain rfl : k = 0 := by omega
          by_cases hck : c = 0
          · rw [if_pos hck] at hcu
            have HC := hide hcu
            subst hck
            clear hcu
            cases A with
            | none =>
              have HRXD := hide (HRX.out.only (g := g) (Only.of_below (p := p) ((Below.refl wr.heap.size wr).drew)) (.inl rfl))
              have HCD := hide (HC.out.only (g := g) (Only.of_below (p := p) ((Below.refl wr.heap.size wr).drew)) (.inl rfl))
              go_wp2_with fail
              go_region_held3 (fun w' => w'.cell? ⟨r, 1, none⟩ = some (.int .i64 a.t) ∧ Only p g wr w')
                (first
                  | (exact ⟨c1, (Only.refl p g wr).drew⟩)
                  | (go_split_ands; exact ⟨hold1 hbE ‹_›, (‹Only p g wr _›).then_ hbE⟩)
                  | (go_split_ands; exact ⟨Only.cell hoU ‹_› HNE.out.1 HNE.out.2, (‹Only p g wr _›).trans hoU (.inl rfl)⟩))
                (first
                  | (go_at_call 64; go_loud (refine (HUN.out).mono ?_; rintro e w4 ⟨v4, out, L4, rfl, hown4, hp4, hi4, hg4, ht4, hoU⟩; obtain ⟨hout, hpm4⟩ := until_take HS.out (HPM.out.trans hg4.perm) hg4.srt hg4.time ht4 HKL.out HTK.out (HEX.out.imp id (fun h => (by obtain ⟨y, h1, h2⟩ := h; exact ⟨y, h1, (by omega)⟩))); obtain ⟨A4, c4, rfl, hc4, hr4⟩ := hown4.shape; subst hout; have hrx4 := HRXD.out.only hoU (.inl rfl); rw [HLT.out] at hc4 hr4 ⊢; clear hown4 hg4 ht4))
                  | (go_at_call 42; refine (eqEnt_same _ _ 0 _ _ _ _ (l.take 0) _ hr4 (by have := hrx4.1.front HKN.out; rwa [flat_take ent_len] at this) HLT.out (by omega)).mono ?_; rintro e w5 ⟨rfl, hbE⟩))
              all_goals
                go_wp2_with fail
                go_ret2
                go_split_ands
                exact ⟨g, L4, _, _, _, l.drop 0, rfl, hp4.below hbE, hi4, (HCD.out.only hoU (.inl rfl)).only (g := g) (Only.of_below (p := p) hbE) (.inl rfl), HLD.out, by omega, HSD.out, hpm4.symm, by omega, HON.out.trans (by assumption) (.inl rfl), .inl rfl⟩
            | some ad =>
              have HRXD := hide (HRX.out.only (g := g) (Only.of_below (p := p) ((Below.refl wr.heap.size wr).drew)) (.inl rfl))
              have HCD := hide (HC.out.only (g := g) (Only.of_below (p := p) ((Below.refl wr.heap.size wr).drew)) (.inl rfl))
              go_wp2_with fail
              go_region_held3 (fun w' => w'.cell? ⟨r, 1, none⟩ = some (.int .i64 a.t) ∧ Only p g wr w')
                (first
                  | (exact ⟨c1, (Only.refl p g wr).drew⟩)
                  | (go_split_ands; exact ⟨hold1 hbE ‹_›, (‹Only p g wr _›).then_ hbE⟩)
                  | (go_split_ands; exact ⟨Only.cell hoU ‹_› HNE.out.1 HNE.out.2, (‹Only p g wr _›).trans hoU (.inl rfl)⟩))
                (first
                  | (go_at_call 64; go_loud (refine (HUN.out).mono ?_; rintro e w4 ⟨v4, out, L4, rfl, hown4, hp4, hi4, hg4, ht4, hoU⟩; obtain ⟨hout, hpm4⟩ := until_take HS.out (HPM.out.trans hg4.perm) hg4.srt hg4.time ht4 HKL.out HTK.out (HEX.out.imp id (fun h => (by obtain ⟨y, h1, h2⟩ := h; exact ⟨y, h1, (by omega)⟩))); obtain ⟨A4, c4, rfl, hc4, hr4⟩ := hown4.shape; subst hout; have hrx4 := HRXD.out.only hoU (.inl rfl); rw [HLT.out] at hc4 hr4 ⊢; clear hown4 hg4 ht4))
                  | (go_at_call 42; refine (eqEnt_same _ _ 0 _ _ _ _ (l.take 0) _ hr4 (by have := hrx4.1.front HKN.out; rwa [flat_take ent_len] at this) HLT.out (by omega)).mono ?_; rintro e w5 ⟨rfl, hbE⟩))
              all_goals
                go_wp2_with fail
                go_ret2
                go_split_ands
                exact ⟨g, L4, _, _, _, l.drop 0, rfl, hp4.below hbE, hi4, (HCD.out.only hoU (.inl rfl)).only (g := g) (Only.of_below (p := p) hbE) (.inl rfl), HLD.out, by omega, HSD.out, hpm4.symm, by omega, HON.out.trans (by assumption) (.inl rfl), .inl rfl⟩
          · rw [if_neg hck] at hcu
            have HC := hide hcu
            clear hcu
            cases A with
            | none =>
              have HRXD := hide (HRX.out.only (g := g) (Only.of_below (p := p) ((Below.refl wr.heap.size wr).drew)) (.inl rfl))
              have HCD := hide (HC.out.only (g := g) (Only.of_below (p := p) ((Below.refl wr.heap.size wr).drew)) (.inl rfl))
              go_wp2_with fail
              go_region_held3 (fun w' => w'.cell? ⟨r, 1, none⟩ = some (.int .i64 a.t) ∧ Only p g wr w')
                (first
                  | (exact ⟨c1, (Only.refl p g wr).drew⟩)
                  | (go_split_ands; exact ⟨hold1 hbE ‹_›, (‹Only p g wr _›).then_ hbE⟩)
                  | (go_split_ands; exact ⟨Only.cell hoU ‹_› HNE.out.1 HNE.out.2, (‹Only p g wr _›).trans hoU (.inl rfl)⟩))
                (first
                  | (go_at_call 64; go_loud (refine (HUN.out).mono ?_; rintro e w4 ⟨v4, out, L4, rfl, hown4, hp4, hi4, hg4, ht4, hoU⟩; obtain ⟨hout, hpm4⟩ := until_take HS.out (HPM.out.trans hg4.perm) hg4.srt hg4.time ht4 HKL.out HTK.out (HEX.out.imp id (fun h => (by obtain ⟨y, h1, h2⟩ := h; exact ⟨y, h1, (by omega)⟩))); obtain ⟨A4, c4, rfl, hc4, hr4⟩ := hown4.shape; subst hout; have hrx4 := HRXD.out.only hoU (.inl rfl); rw [HLT.out] at hc4 hr4 ⊢; clear hown4 hg4 ht4))
                  | (go_at_call 42; refine (eqEnt_same _ _ 0 _ _ _ _ (l.take 0) _ hr4 (by have := hrx4.1.front HKN.out; rwa [flat_take ent_len] at this) HLT.out (by omega)).mono ?_; rintro e w5 ⟨rfl, hbE⟩))
              all_goals
                go_wp2_with fail
                go_ret2
                go_split_ands
                exact ⟨g, L4, _, _, _, l.drop 0, rfl, hp4.below hbE, hi4, (HCD.out.only hoU (.inl rfl)).only (g := g) (Only.of_below (p := p) hbE) (.inl rfl), HLD.out, by omega, HSD.out, hpm4.symm, by omega, HON.out.trans (by assumption) (.inl rfl), .inl rfl⟩
            | some ad =>
              have HRXD := hide (HRX.out.only (g := g) (Only.of_below (p := p) ((Below.refl wr.heap.size wr).drew)) (.inl rfl))
              have HCD := hide (HC.out.only (g := g) (Only.of_below (p := p) ((Below.refl wr.heap.size wr).drew)) (.inl rfl))
              go_wp2_with fail
              go_region_held3 (fun w' => w'.cell? ⟨r, 1, none⟩ = some (.int .i64 a.t) ∧ Only p g wr w')
                (first
                  | (exact ⟨c1, (Only.refl p g wr).drew⟩)
                  | (go_split_ands; exact ⟨hold1 hbE ‹_›, (‹Only p g wr _›).then_ hbE⟩)
                  | (go_split_ands; exact ⟨Only.cell hoU ‹_› HNE.out.1 HNE.out.2, (‹Only p g wr _›).trans hoU (.inl rfl)⟩))
                (first
                  | (go_at_call 64; go_loud (refine (HUN.out).mono ?_; rintro e w4 ⟨v4, out, L4, rfl, hown4, hp4, hi4, hg4, ht4, hoU⟩; obtain ⟨hout, hpm4⟩ := until_take HS.out (HPM.out.trans hg4.perm) hg4.srt hg4.time ht4 HKL.out HTK.out (HEX.out.imp id (fun h => (by obtain ⟨y, h1, h2⟩ := h; exact ⟨y, h1, (by omega)⟩))); obtain ⟨A4, c4, rfl, hc4, hr4⟩ := hown4.shape; subst hout; have hrx4 := HRXD.out.only hoU (.inl rfl); rw [HLT.out] at hc4 hr4 ⊢; clear hown4 hg4 ht4))
                  | (go_at_call 42; refine (eqEnt_same _ _ 0 _ _ _ _ (l.take 0) _ hr4 (by have := hrx4.1.front HKN.out; rwa [flat_take ent_len] at this) HLT.out (by omega)).mono ?_; rintro e w5 ⟨rfl, hbE⟩))
              all_goals
                go_wp2_with fail
                go_ret2
                go_split_ands
                exact ⟨g, L4, _, _, _, l.drop 0, rfl, hp4.below hbE, hi4, (HCD.out.only hoU (.inl rfl)).only (g := g) (Only.of_below (p := p) hbE) (.inl rfl), HLD.out, by omega, HSD.out, hpm4.symm, by omega, HON.out.trans (by assumption) (.inl rfl), .inl rfl⟩
        · obtain ⟨b, off, rfl, hb, -⟩ := HRX.out.1.2 hn0
          have i0 : (0 : Int) ≤ (k : Int) := by omega
          have i1 : (k : Int) ≤ (n : Int) := by omega
          have i2 : (n : Int) ≤ (c : Int) := by omega
          have i3 : (k : Int) ≤ (c : Int) := by omega
          by_cases hck : c = k
          · rw [if_pos hck] at hcu
            have hnk : n = k := by omega
            have hnz : ¬ k = 0 := by omega
            subst hck
            subst hnk
            rw [Nat.sub_self] at hcu
            have HC := hide hcu
            have hld := HLD.out
            rw [Nat.sub_self] at hld
            have HLD := hide hld
            clear hcu hld
            have HRXD := hide (HRX.out.only (g := g) (Only.of_below (p := p) ((Below.refl wr.heap.size wr).drew)) (.inl rfl))
            have HCD := hide (HC.out.only (g := g) (Only.of_below (p := p) ((Below.refl wr.heap.size wr).drew)) (.inl rfl))
            go_wp2_with fail
            go_region_held3 (fun w' => w'.cell? ⟨r, 1, none⟩ = some (.int .i64 a.t) ∧ Only p g wr w')
              (first
                | (exact ⟨c1, (Only.refl p g wr).drew⟩)
                | (go_split_ands; exact ⟨hold1 hbE ‹_›, (‹Only p g wr _›).then_ hbE⟩)
                | (go_split_ands; exact ⟨Only.cell hoU ‹_› HNE.out.1 HNE.out.2, (‹Only p g wr _›).trans hoU (.inl rfl)⟩))
              (first
                | (go_at_call 64; go_loud (refine (HUN.out).mono ?_; rintro e w4 ⟨v4, out, L4, rfl, hown4, hp4, hi4, hg4, ht4, hoU⟩; obtain ⟨hout, hpm4⟩ := until_take HS.out (HPM.out.trans hg4.perm) hg4.srt hg4.time ht4 HKL.out HTK.out (HEX.out.imp id (fun h => (by obtain ⟨y, h1, h2⟩ := h; exact ⟨y, h1, (by omega)⟩))); obtain ⟨A4, c4, rfl, hc4, hr4⟩ := hown4.shape; subst hout; have hrx4 := HRXD.out.only hoU (.inl rfl); rw [HLT.out] at hc4 hr4 ⊢; clear hown4 hg4 ht4))
                | (go_at_call 42; refine (eqEnt_same _ _ n _ _ _ _ (l.take n) _ hr4 (by have := hrx4.1.front HKN.out; rwa [flat_take ent_len] at this) HLT.out (by omega)).mono ?_; rintro e w5 ⟨rfl, hbE⟩))
            all_goals
              go_wp2_with fail
              go_ret2
              go_split_ands
              exact ⟨g, L4, _, _, _, l.drop n, rfl, hp4.below hbE, hi4, (HCD.out.only hoU (.inl rfl)).only (g := g) (Only.of_below (p := p) hbE) (.inl rfl), HLD.out, by omega, HSD.out, hpm4.symm, by omega, HON.out.trans (by assumption) (.inl rfl), .inl rfl⟩
          · rw [if_neg hck] at hcu
            have hadd : (⟨b, off, none⟩ : Addr).add (k * 3) = ⟨b, off + k * 3, none⟩ := by
              unfold Addr.add
              split
              · rename_i h; rw [h]; rfl
              · rfl
            simp only [Option.map_some, hadd] at hcu
            have HC := hide hcu
            clear hcu hadd
            have HRXD := hide (HRX.out.only (g := g) (Only.of_below (p := p) ((Below.refl wr.heap.size wr).drew)) (.inl rfl))
            have HCD := hide (HC.out.only (g := g) (Only.of_below (p := p) ((Below.refl wr.heap.size wr).drew)) (.inl rfl))
            go_wp2_with fail
            go_region_held3 (fun w' => w'.cell? ⟨r, 1, none⟩ = some (.int .i64 a.t) ∧ Only p g wr w')
              (first
                | (exact ⟨c1, (Only.refl p g wr).drew⟩)
                | (go_split_ands; exact ⟨hold1 hbE ‹_›, (‹Only p g wr _›).then_ hbE⟩)
                | (go_split_ands; exact ⟨Only.cell hoU ‹_› HNE.out.1 HNE.out.2, (‹Only p g wr _›).trans hoU (.inl rfl)⟩))
              (first
                | (go_at_call 64; go_loud (refine (HUN.out).mono ?_; rintro e w4 ⟨v4, out, L4, rfl, hown4, hp4, hi4, hg4, ht4, hoU⟩; obtain ⟨hout, hpm4⟩ := until_take HS.out (HPM.out.trans hg4.perm) hg4.srt hg4.time ht4 HKL.out HTK.out (HEX.out.imp id (fun h => (by obtain ⟨y, h1, h2⟩ := h; exact ⟨y, h1, (by omega)⟩))); obtain ⟨A4, c4, rfl, hc4, hr4⟩ := hown4.shape; subst hout; have hrx4 := HRXD.out.only hoU (.inl rfl); rw [HLT.out] at hc4 hr4 ⊢; clear hown4 hg4 ht4))
                | (go_at_call 42; refine (eqEnt_same _ _ k _ _ _ _ (l.take k) _ hr4 (by have := hrx4.1.front HKN.out; rwa [flat_take ent_len] at this) HLT.out (by omega)).mono ?_; rintro e w5 ⟨rfl, hbE⟩))
            all_goals
              go_wp2_with fail
              go_ret2
              go_split_ands
              exact ⟨g, L4, _, _, _, l.drop k, rfl, hp4.below hbE, hi4, (HCD.out.only hoU (.inl rfl)).only (g := g) (Only.of_below (p := p) hbE) (.inl rfl), HLD.out, by omega, HSD.out, hpm4.symm, by omega, HON.out.trans (by assumption) (.inl rfl), .inl rfl⟩
end Go.Proofs.Ytknmpfimnbenjaa
