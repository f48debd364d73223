/-
  The walk of pareto.Ideal.
-/
import Derived.Test.YtkgkilogjodccaaLayers
namespace Go.Proofs.Ytkgkilogjodccaa
open Go.RowKit HB ParetoP
set_option linter.unusedVariables false
set_option linter.unusedSimpArgs false
/-- are there rows, and all of as many numbers? -/
def alike (ls : List (List Int)) : Prop := 0 < ls.length ∧ ∀ i, i < ls.length → (rw_ ls i).length = (rw_ ls 0).length
def IdealPost (ls : List (List Int)) (n : Nat) (w : World) (e : Ending) (w' : World) : Prop :=
  ((alike ls ∧ ∃ v d, e = .returned (.tuple #[v, .bool true]) ∧ Own w' w.heap.size 3 1 (num .i64) v d ∧ Idl ls n d) ∨ (¬ alike ls ∧ e = .returned (.tuple #[.slice none 0 0, .bool false]))) ∧ Below w.heap.size w w'
theorem int_ones (l : List Int) : ∀ u ∈ l.flatMap (num .i64), u.oneCell' = true := by
  rw [map_flat]; intro u hu; obtain ⟨z, _, rfl⟩ := List.mem_map.1 hu; rfl
set_option maxRecDepth 100000 in
set_option maxHeartbeats 8000000 in
theorem pareto_ideal (A : Option Addr) (n c B : Nat) (R : List RowR) (w : World) (hr : Rws w B A n R) (hB : B ≤ w.heap.size) (hn : n ≤ 25) (h8 : ∀ l ∈ lsOf R, l.length ≤ 8) (hc : n ≤ c) :
    Calls Try.prog 58 #[.slice A n c] w (IdealPost (lsOf R) n w) := by
  have HR := hide hr
  have HLN := hide (show (lsOf R).length = n by simp [lsOf, hr.2.1])
  rcases Nat.eq_zero_or_pos n with h0 | h0
  · have HNA := hide (show ¬ alike (lsOf R) from fun h => by have := h.1; rw [HLN.out] at this; omega)
    subst h0
    clear hr h8
    go_enter Try.func58, Try.ntmps58
    go_wp2_with fail
    go_ret2
    exact ⟨.inr ⟨HNA.out, rfl⟩, Below.refl _ _⟩
  · obtain ⟨N, rfl⟩ : ∃ N, n = N + 1 := ⟨n - 1, by omega⟩
    obtain ⟨b, off, A0, n0, c0, l0, rfl, hb, hg0, cz, hr0, hl0⟩ := hr.at_ h0
    have hn0 : n0 ≤ 8 := by rw [← hl0]; exact h8 l0 (List.mem_of_getElem? hg0)
    have HD0 := hide (show rw_ (lsOf R) 0 = l0 by simp [rw_, List.getD, hg0])
    have hcut := hr.1.cut (k := 1) (cap := c) h0 hc
    have HR0 := hide hr0
    have HL0 := hide hl0
    have H8 := hide h8
    have cz : w.cell? ⟨b, off, none⟩ = some (.slice A0 n0 c0) := cz
    have j0 : (0 : Int) < (N : Int) + 1 := by omega
    have j1 : (1 : Int) ≤ (N : Int) + 1 := by omega
    have j2 : (N : Int) + 1 ≤ (c : Int) := by omega
    have j3 : ((N : Int) + 1 == 0) = false := by simp; omega
    clear hr h8 hg0 hr0 hl0
    by_cases hck : c = 1
    · have hN : N = 0 := by omega
      subst hN
      subst hck
      clear hcut
      go_enter Try.func58, Try.ntmps58
      go_wp2_with (at_builtin; refine pushAll rfl _ _ 35 rfl Try.underlying35 Pareto.info rfl (by omega) (by omega) rfl (Own.nil _ w.heap.size _ _ _) l0 B _ n0 _ rfl HL0.out (by rw [map_flat]; exact HR0.out) (int_ones _) (by simp) (by omega) (Nat.le_refl _) ?_; intro v5 w5 hown5 hb5; rw [List.nil_append] at hown5; obtain ⟨A5, c5, rfl, hc5, -⟩ := hown5.shape; rw [HL0.out] at hc5 hown5 ⊢; have HO5 := hide hown5; have HB5 := hide hb5; clear hown5 hb5)
      go_loopw [19] (fun s wr => s = .int .i64 0 ∧ Own wr w.heap.size 3 1 (num .i64) (.slice A5 n0 c5) l0 ∧ Below w.heap.size w wr) (fun _ _ => 0)
      case atStart => exact ⟨rfl, HO5.out, HB5.out⟩
      case round =>
        obtain ⟨rfl, hown, hbel⟩ := hrel
        have HOW := hide hown
        have HBE := hide hbel
        clear hown hbel
        go_wp2_with fail
        go_ret2
        refine ⟨.inl ⟨⟨by rw [HLN.out]; omega, fun j hj => ?_⟩, _, l0, rfl, HOW.out, by rw [← HD0.out]; exact Idl.first _⟩, HBE.out⟩
        rw [HLN.out] at hj
        obtain rfl : j = 0 := by omega
        rfl
    · rw [if_neg hck] at hcut
      have hadd : (⟨b, off, none⟩ : Addr).add (1 * 1) = ⟨b, off + 1, none⟩ := rfl
      simp only [Option.map_some, hadd] at hcut
      have HC := hide hcut
      clear hcut hadd
      go_enter Try.func58, Try.ntmps58
      go_wp2_with (at_builtin; refine pushAll rfl _ _ 35 rfl Try.underlying35 Pareto.info rfl (by omega) (by omega) rfl (Own.nil _ w.heap.size _ _ _) l0 B _ n0 _ rfl HL0.out (by rw [map_flat]; exact HR0.out) (int_ones _) (by simp) (by omega) (Nat.le_refl _) ?_; intro v5 w5 hown5 hb5; rw [List.nil_append] at hown5; obtain ⟨A5, c5, rfl, hc5, -⟩ := hown5.shape; rw [HL0.out] at hc5 hown5 ⊢; have HO5 := hide hown5; have HB5 := hide hb5; clear hown5 hb5)
      go_loopw [19] (fun s wr => ∃ (i : Nat) (d : List Int), i ≤ N ∧ s = .int .i64 i ∧ d.length = n0 ∧ Idl (lsOf R) (i + 1) d ∧ Own wr w.heap.size 3 1 (num .i64) (.slice A5 n0 c5) d ∧ Below w.heap.size w wr) (fun s _ => N - (intOf s).toNat)
      case atStart => exact ⟨0, l0, Nat.zero_le _, rfl, HL0.out, by rw [← HD0.out]; exact Idl.first _, HO5.out, HB5.out⟩
      case round =>
        obtain ⟨i, d, hi, rfl, hd, hidl, hown, hbel⟩ := hrel
        have HDL := hide hd
        have HID := hide hidl
        have HOW := hide hown
        have HBE := hide hbel
        by_cases hlt : i < N
        · obtain ⟨b', off', A', n', c', r, hA', hb', hg', cr, hr', hl'⟩ := HR.out.at_ (show i + 1 < N + 1 by omega)
          have cr := (hbel.cell (p := ⟨b', off' + (i + 1), none⟩) (by simp only; omega)).trans cr
          simp only [Option.some.injEq, Addr.mk.injEq, and_true] at hA'
          obtain ⟨rfl, rfl⟩ := hA'
          rw [show off + (i + 1) = off + 1 + i by omega] at cr
          have HRW := hide (show rw_ (lsOf R) (i + 1) = r by simp [rw_, List.getD, hg'])
          have HRR := hide hr'
          have HRL := hide hl'
          have i0 : (0 : Int) ≤ (i : Int) := by omega
          have i1 : (i : Int) < (N : Int) := by omega
          have hn8 : n' ≤ 8 := by rw [← hl']; exact H8.out r (List.mem_of_getElem? hg')
          clear hd hidl hown hg' hr' hl'
          by_cases hne : n' = n0
          · subst hne
            have hneq : ((n' : Int) != (n' : Int)) = false := by simp
            clear hbel
            go_wp2_with fail
            go_loopw [30] (fun s wx => ∃ q : Nat, q ≤ n' ∧ s = .int .i64 q ∧ Own wx w.heap.size 3 1 (num .i64) (.slice A5 n' c5) (mix d r q) ∧ Below w.heap.size w wx) (fun s _ => n' - (intOf s).toNat)
            case atStart => exact ⟨0, Nat.zero_le _, rfl, by rw [mix_zero]; exact HOW.out, HBE.out⟩
            case round =>
              obtain ⟨q, hq, rfl, hox, hbx⟩ := hrel
              have hml := mix_length HDL.out HRL.out hq
              by_cases hlq : q < n'
              · obtain ⟨g, cap, hv, hbg, hgl, -, -, -⟩ := hox.at_ (by rw [hml]; omega)
                simp only [Value.slice.injEq] at hv
                obtain ⟨rfl, -, rfl⟩ := hv
                obtain ⟨x, hx, e1, f1⟩ := hox.int_at hml hlq
                rw [mix_at HDL.out HRL.out hlq] at hx
                obtain ⟨b2, o2, y, rfl, hb2, hy, e2⟩ := (HRR.out.below (hbx.mono hB)).int_at HRL.out hlq
                have HNX := hide (mix_next HDL.out HRL.out hx hy)
                have HSTO := hide (hox.store hml q (min x y))
                have HBX := hide hbx
                have k0 : (0 : Int) ≤ (q : Int) := by omega
                have k1 : (q : Int) < (n' : Int) := by omega
                clear hox hx hy hbx hml
                go_wp2_with fail
                go_roundw
                case rel => exact ⟨q + 1, by omega, by go_num, by rw [← HNX.out]; exact HSTO.out.1, HBX.out.trans HSTO.out.2⟩
                case measure => simp [intOf]; omega
              · obtain rfl : q = n' := by omega
                have hid := HID.out.next (by rw [HRW.out, HRL.out, HDL.out])
                rw [HRW.out] at hid
                have hox := hox
                rw [mix_all HDL.out HRL.out] at hox
                have HOX := hide hox
                have HBX := hide hbx
                have HID2 := hide hid
                have HZL := hide (show (List.zipWith min d r).length = q by rw [List.length_zipWith, HDL.out, HRL.out, Nat.min_self])
                clear hox hbx hid hml
                go_wp2_with fail
                go_roundw
                case rel => exact ⟨i + 1, List.zipWith min d r, by omega, by go_num, HZL.out, HID2.out, HOX.out, HBX.out⟩
                case measure => simp [intOf]; omega
          · have hneq : ((n' : Int) != (n0 : Int)) = true := by rw [bne_iff_ne]; omega
            have HNA := hide (show ¬ alike (lsOf R) from fun h => by
              have h1 := h.2 (i + 1) (by rw [HLN.out]; omega)
              rw [HRW.out, HD0.out, HRL.out, HL0.out] at h1
              exact hne h1)
            clear hbel
            go_wp2_with fail
            go_ret2
            exact ⟨.inr ⟨HNA.out, rfl⟩, HBE.out⟩
        · obtain rfl : i = N := by omega
          clear hbel hd hidl hown
          go_wp2_with fail
          go_ret2
          refine ⟨.inl ⟨⟨by rw [HLN.out]; omega, fun j hj => ?_⟩, _, d, rfl, HOW.out, HID.out⟩, HBE.out⟩
          rw [HLN.out] at hj
          rw [HID.out.len j (by omega), HID.out.len 0 (by omega)]
end Go.Proofs.Ytkgkilogjodccaa
