/-
  The walk of the law HistSums at a width from 1 on.
-/
import Derived.Test.YtkgkilogjodccaaRows
import Derived.Test.YtkgkilogjodccaaFrame
import Derived.Test.YtkgkilogjodccaaSumA
import Derived.IntWalk
namespace Go.Proofs.Ytkgkilogjodccaa
open Go.ChangeShapes Go.WideShapes Go.ChangeAt Go.RowKit HB SumH HistP
set_option linter.unusedVariables false
set_option linter.unusedSimpArgs false

set_option maxRecDepth 100000 in
set_option maxHeartbeats 8000000 in
theorem histSums_more (A A' : Option Addr) (n c n' c' : Nat) (a b : List Int) (k : Int) (w : World) (ha : Rd w w.heap.size 1 A n (a.map (Value.int .i64))) (hla : a.length = n) (hb : Rd w w.heap.size 1 A' n' (b.map (Value.int .i64))) (hlb : b.length = n') (hwa : ∀ x ∈ a, (Lit.int .i64 x).wf = true) (hwb : ∀ x ∈ b, (Lit.int .i64 x).wf = true) (hn : n ≤ 100) (hn' : n' ≤ 100) (hk : 1 ≤ k) (hkm : k ≤ 9223372036854775807) :
    Calls Try.prog 8 #[.slice A n c, .slice A' n' c', .int .i64 k] w fun e w' => e = .returned (.bool true) ∧ Below w.heap.size w w' := by
  have HA := hide ha
  have HB := hide hb
  have HLA := hide hla
  have HLB := hide hlb
  have HWA := hide hwa
  have HWB := hide hwb
  have WA : Hid (∀ u ∈ a, wrap64 u = u) := hide (fun u hu => by have := bounds_i64 (hwa u hu); unfold wrap64; omega)
  have WB : Hid (∀ u ∈ b, wrap64 u = u) := hide (fun u hu => by have := bounds_i64 (hwb u hu); unfold wrap64; omega)
  have h100 : decide (100 < n) = false := by simp; omega
  have h101 : decide (100 < n') = false := by simp; omega
  obtain ⟨M, hM⟩ : ∃ M, max n n' = M := ⟨_, rfl⟩
  have HM := hide hM
  have hM1 : M ≤ 100 := by omega
  have hM2 : n ≤ M := by omega
  have hM3 : n' ≤ M := by omega
  have hM4 : M = n ∨ M = n' := by omega
  clear ha hb hla hlb hwa hwb hM
  have k1 : decide ((1 : Int) ≤ k) = true := by simp; omega
  have k2 : decide (k < 1) = false := by simp; omega
  have kz : (k == 0) = false := by rw [beq_eq_false_iff_ne]; omega
  go_enter Try.func8, Try.ntmps8
  go_wp2_with fail
  go_loopw [7, 10] (fun o i wr => ∃ j : Nat, j ≤ max n n' ∧ i = .int .i64 j ∧ Own wr w.heap.size 3 1 (num .i64) o (adds a b j) ∧ Below w.heap.size w wr) (fun _ i _ => M - (intOf i).toNat)
  case atStart => exact ⟨0, Nat.zero_le _, rfl, Own.nil _ _ _ _ _, Below.refl _ _⟩
  case round =>
    obtain ⟨j, hj, rfl, hown, hbel⟩ := hrel
    rw [HM.out] at hj
    have HO := hide hown
    clear hown
    have hz := hbel.size
    have hL : (adds a b j).length ≤ 1000000000 := by rw [adds_length]; omega
    by_cases hlt : j < M
    · have dj : decide ((j : Int) < max (n : Int) (n' : Int)) = true := by simp; omega
      by_cases h1 : j < n
      · obtain ⟨b1, off1, x, rfl, hb1, hga, c1⟩ := (HA.out.below hbel).int_at HLA.out h1
        have hwx := bounds_i64 (HWA.out x (List.mem_of_getElem? hga))
        have hwx1 := hwx.1
        have hwx2 := hwx.2
        by_cases h2 : j < n'
        · obtain ⟨b2, off2, y, rfl, hb2, hgb, c2⟩ := (HB.out.below hbel).int_at HLB.out h2
          have hv := hide (show sm a b j = wrap64 (x + y) by unfold sm; simp only [List.getD, hga, hgb, Option.getD_some])
          clear hga hgb
          go_wp2_with (at_builtin; refine push rfl _ _ 35 rfl Try.underlying35 Sums.info rfl (by omega) (by omega) rfl (HO.out.alloc _) (wrap64 (x + y)) ⟨_, 0, none⟩ 1 rfl rfl (cell_one_new _ _ _) (by simp [Value.oneCell']) hL (Nat.le_trans hz (by simp)) ?_; intro v' w1 hown1 hb1)
          go_roundw
          case rel => exact ⟨j + 1, by rw [HM.out]; omega, by go_num, by rw [adds_next, hv.out]; exact hown1, (hbel.alloc hz _).trans hb1⟩
          case measure => simp [intOf]; omega
        · have hgb : b[j]? = none := List.getElem?_eq_none (by rw [HLB.out]; omega)
          have hwr : wrap64 (x + 0) = x := by unfold wrap64; omega
          have hv := hide (show sm a b j = x by unfold sm; simp only [List.getD, hga, hgb, Option.getD_some, Option.getD_none]; exact hwr)
          clear hga hgb hwr
          go_wp2_with (at_builtin; refine push rfl _ _ 35 rfl Try.underlying35 Sums.info rfl (by omega) (by omega) rfl (HO.out.alloc _) (x) ⟨_, 0, none⟩ 1 rfl rfl (cell_one_new _ _ _) (by simp [Value.oneCell']) hL (Nat.le_trans hz (by simp)) ?_; intro v' w1 hown1 hb1)
          go_roundw
          case rel => exact ⟨j + 1, by rw [HM.out]; omega, by go_num, by rw [adds_next, hv.out]; exact hown1, (hbel.alloc hz _).trans hb1⟩
          case measure => simp [intOf]; omega
      · obtain ⟨b2, off2, y, rfl, hb2, hgb, c2⟩ := (HB.out.below hbel).int_at HLB.out (show j < n' by omega)
        have hga : a[j]? = none := List.getElem?_eq_none (by rw [HLA.out]; omega)
        have hwy := bounds_i64 (HWB.out y (List.mem_of_getElem? hgb))
        have hwy1 := hwy.1
        have hwy2 := hwy.2
        have hwr : wrap64 (0 + y) = y := by unfold wrap64; omega
        have hv := hide (show sm a b j = y by unfold sm; simp only [List.getD, hga, hgb, Option.getD_some, Option.getD_none]; exact hwr)
        clear hga hgb hwr
        go_wp2_with (at_builtin; refine push rfl _ _ 35 rfl Try.underlying35 Sums.info rfl (by omega) (by omega) rfl (HO.out.alloc _) (y) ⟨_, 0, none⟩ 1 rfl rfl (cell_one_new _ _ _) (by simp [Value.oneCell']) hL (Nat.le_trans hz (by simp)) ?_; intro v' w1 hown1 hb1)
        go_roundw
        case rel => exact ⟨j + 1, by rw [HM.out]; omega, by go_num, by rw [adds_next, hv.out]; exact hown1, (hbel.alloc hz _).trans hb1⟩
        case measure => simp [intOf]; omega
    · obtain rfl : j = M := by omega
      have dj : decide ((j : Int) < max (n : Int) (n' : Int)) = false := by simp; omega
      have hOs := HO
      clear HO hL
      obtain ⟨W1, hW1⟩ : ∃ W1, W1 = wr := ⟨_, rfl⟩
      subst hW1
      go_wp2_with fail
      go_loopw [8, 9, 12] (fun o s i wr2 => ∃ q : Nat, q ≤ n ∧ i = .int .i64 q ∧ s = .int .i64 (wrap64 (sum (a.take q))) ∧ Own wr2 W1.heap.size 3 1 (num .i64) o (wide a k q) ∧ Below W1.heap.size W1 wr2) (fun _ _ i _ => n - (intOf i).toNat)
      case atStart => exact ⟨0, Nat.zero_le _, rfl, by rw [show sum (a.take 0) = 0 from rfl, show wrap64 0 = 0 from by unfold wrap64; omega], Own.nil _ _ _ _ _, Below.refl _ _⟩
      case round =>
        obtain ⟨q, hq, rfl, rfl, hown, hbel2⟩ := hrel
        have hz2 := hbel2.size
        have hbelA := hbel.trans (hbel2.mono hz)
        have HO := hide hown
        clear hown
        by_cases hq2 : q < n
        · have HR := hide (HA.out.below hbelA)
          obtain ⟨b1, off1, x, hA0, hb1', hga, c0⟩ := HR.out.int_at HLA.out hq2
          subst hA0
          have Hg := hide hga
          have htk : wrap64 (wrap64 (sum (a.take q)) + x) = wrap64 (sum (a.take (q + 1))) := by rw [Sums.w_add, List.take_add_one, hga, sum_append]; simp [sum]
          have T := hide htk
          clear htk hga
          generalize hs : wrap64 (sum (a.take q)) = s at *
          clear hs
          have hlen := grown_len (l := a) hk q
          obtain ⟨p, hp⟩ := Int.eq_ofNat_of_zero_le (show 0 ≤ (q : Int) / k from Int.ediv_nonneg (by omega) (by omega))
          have hqj : (q : Int) / k ≤ q := Int.ediv_le_self _ (by omega)
          obtain ⟨m, hm⟩ : ∃ m, (grown a k q).length = m := ⟨_, rfl⟩
          have hm1 : 1 ≤ m := by omega
          have hm2 : m ≤ 101 := by omega
          have Hm := hide hm
          have Hp := hide (show m - 1 = p by omega)
          have td : (q : Int).tdiv k = (p : Int) := by rw [Int.tdiv_eq_ediv_of_nonneg (by omega)]; exact hp
          have p0 : (0 : Int) ≤ (p : Int) := by omega
          have p1 : (p : Int) < (m : Int) := by omega
          have p2 : p < m := by omega
          have q0 : (0 : Int) ≤ (q : Int) := by omega
          have q1 : (q : Int) < (n : Int) := by omega
          have tm : (q : Int).tmod k = (q : Int) % k := Int.tmod_eq_emod_of_nonneg (by omega)
          by_cases h0 : (q : Int) % k = 0
          · have hgr := hide (show wide a k q ++ [0] = grown a k q by unfold grown; rw [if_pos h0])
            have hL2 : (wide a k q).length ≤ 1000000000 := by
              have := congrArg List.length hgr.out; rw [Hm.out, List.length_append] at this; simp at this; omega
            have t0 : ((q : Int) % k == 0) = true := by simpa using h0
            have t1 : ((q : Int).tmod k == 0) = true := by rw [tm]; exact t0
            have hcell : ∀ (o : Obj) (w1 : World), Below W1.heap.size (wr.alloc o) w1 → w1.cell? ⟨b1, off1 + q, none⟩ = some (Value.int .i64 x) := fun o w1 h =>
              ((h.cell (p := ⟨b1, off1 + q, none⟩) (by show b1 < W1.heap.size; omega)).trans ((((Below.refl wr.heap.size wr).alloc (Nat.le_refl _) o).cell (p := ⟨b1, off1 + q, none⟩) (by show b1 < wr.heap.size; omega)).trans c0))
            have HC := hide hcell
            clear h0 tm hlen hp hqj hm hcell
            go_wp2_with (at_builtin; refine push rfl _ _ 35 rfl Try.underlying35 Sums.info rfl (by omega) (by omega) rfl (HO.out.alloc _) 0 ⟨_, 0, none⟩ 1 rfl rfl (cell_one_new _ _ _) (by simp [Value.oneCell']) hL2 (Nat.le_trans hz2 (by simp)) ?_; intro v' w1 hown1 hb1; rw [hgr.out] at hown1; obtain ⟨g, cap, rfl, hgB, hgW, hcap, -, -⟩ := hown1.at_ (by rw [Hm.out]; omega); rw [Hm.out] at hown1 hcap ⊢; obtain ⟨z, hzg, cz, fz⟩ := hown1.int_at Hm.out (j := p) (by omega); have Hz := hide hzg; clear hzg; have hst := hide (hown1.store Hm.out p (wrap64 (z + x))); have HO1 := hide hown1; clear hown1; have cx := HC.out _ _ hb1)
            have hb0 := hbel2.alloc hz2 (.cells #[.int .i64 0] 3)
            have iw : IntKind.i64.wrap (p : Int) = (p : Int) := IntWalk.i64_in _ (by omega)
            go_region
            all_goals
              go_wp2_with fail
              go_roundw
              case rel => exact ⟨q + 1, by omega, by go_num, by rw [← T.out], by rw [← wide_next Hg.out Hm.out (by rw [Hp.out]; exact Hz.out), Hp.out]; exact hst.out.1.drew, below_drewN ((hb0.trans hb1).trans hst.out.2) 1⟩
              case measure => simp [intOf]; omega

          · have hgr := (show wide a k q = grown a k q by unfold grown; rw [if_neg h0])
            have t0 : ((q : Int) % k == 0) = false := by simpa using h0
            have t1 : ((q : Int).tmod k == 0) = false := by rw [tm]; exact t0
            have hown1 := HO.out
            rw [hgr] at hown1
            obtain ⟨g, cap, rfl, hgB, hgW, hcap, -, -⟩ := hown1.at_ (by rw [Hm.out]; omega)
            rw [Hm.out] at hown1 hcap
            simp only [Hm.out]
            obtain ⟨z, hzg, cz, fz⟩ := hown1.int_at Hm.out (j := p) (by omega)
            have Hz := hide hzg
            have hst := hide (hown1.store Hm.out p (wrap64 (z + x)))
            clear h0 tm hgr hzg hown1 HO hlen hp hqj hm
            go_wp2_with fail
            have iw : IntKind.i64.wrap (p : Int) = (p : Int) := IntWalk.i64_in _ (by omega)
            go_region
            all_goals
              go_wp2_with fail
              go_roundw
              case rel => exact ⟨q + 1, by omega, by go_num, by rw [← T.out], by rw [← wide_next Hg.out Hm.out (by rw [Hp.out]; exact Hz.out), Hp.out]; exact hst.out.1.drew, below_drewN (hbel2.trans hst.out.2) 1⟩
              case measure => simp [intOf]; omega

        · have hqe : q = n := by omega
          clear hqe
          have hf : a.take q = a := List.take_of_length_le (by rw [HLA.out]; omega)
          rw [hf]
          have hws : wrap64 (sum (wide a k q)) = wrap64 (sum a) := by rw [wide_sum hk q (by rw [HLA.out]; omega), hf]
          generalize hs : wrap64 (sum a) = s at *
          have S := hide hs
          have S2 := hide hws
          have HQ : Hid (wide a k a.length = wide a k q) := hide (by rw [HLA.out]; congr 1; omega)
          clear hs hf hws
          have hO := hOs.out.below hbel2
          obtain ⟨A7, c7, rfl, hc7, hrd7⟩ := hO.ints
          rw [adds_length] at hc7 hrd7
          simp only [adds_length]
          have HR7 := hide hrd7
          obtain ⟨A8, c8, rfl, hc8, hrd8⟩ := HO.out.ints
          have hl8 : (wide a k q).length ≤ 101 := by
            have := wide_len (l := a) hk q
            have h2 : (q : Int) / k ≤ q := Int.ediv_le_self _ (by omega)
            split at this <;> omega
          generalize hL8 : (wide a k q).length = m8 at *
          have HL8 := hide hL8
          have HR8 := hide hrd8
          clear hrd7 hO hrd8 HO hL8
          go_wp2_with fail
          refine (hist_wider A n c w.heap.size a k _ (HA.out.below hbelA) (Nat.le_trans hz hz2) HLA.out (by omega) hk hkm).mono ?_; rintro e w5 ⟨v5, rfl, hown5, hb5⟩
          rw [HQ.out] at hown5
          obtain ⟨A5, c5, rfl, hc5, hrd5⟩ := hown5.ints
          rw [HL8.out] at hc5 hrd5
          simp only [HL8.out]
          have HR5 := hide hrd5
          have HR8' := hide (HR8.out.below hb5)
          have HR7' := hide (HR7.out.below hb5)
          have hB5 := then_ hbelA hb5 (Nat.le_refl _)
          have hz5 := hB5.size
          have hz45 := hb5.size
          clear hrd5 hown5 HR7 HR8 hb5
          go_wp2_with fail
          refine (eqInt _ _ _ _ _ _ _ _ _ _ _ HR5.out HR8'.out (by omega) (by omega)).mono ?_; rintro e w3 ⟨rfl, mm, rfl⟩
          simp only [decide_true]
          go_wp2_with fail
          refine (hist_total_w _ _ _ _ (wide a k q) _ (HR5.out.drewN mm) HL8.out (by omega)).mono ?_; rintro e w' ⟨rfl, rfl⟩; simp only [S2.out]
          have hB6 := below_drewN hB5 mm
          go_wp2_with fail
          refine (hist_add A A' n c n' c' a b _ ((HA.out.below hB6).mono hz5) HLA.out ((HB.out.below hB6).mono hz5) HLB.out (by omega) (by omega) WA.out WB.out).mono ?_; rintro e w4 ⟨v4, rfl, hown4, hb4⟩
          rw [HM.out] at hown4
          obtain ⟨A4, c4, rfl, hc4, hrd4⟩ := hown4.ints
          rw [adds_length] at hc4 hrd4
          simp only [adds_length]
          have HR4 := hide hrd4
          have HR7'' := hide ((HR7'.out.drewN mm).below (hb4.mono hz45))
          have hB := then_ hB6 hb4 (Nat.le_refl _)
          clear hrd4 hown4
          go_wp2_with fail
          refine (eqInt _ _ _ _ _ _ _ _ _ _ _ HR4.out HR7''.out (by omega) (by omega)).mono ?_; rintro e w3 ⟨rfl, m4, rfl⟩
          simp only [decide_true]
          go_wp2_with fail
          refine (hist_total_w A n c w.heap.size a _ ((HA.out.below hB).drewN m4) HLA.out (by omega)).mono ?_; rintro e w' ⟨rfl, rfl⟩; simp only [S.out]
          go_wp2_with (go_at_call 29; refine (hist_alive _).mono ?_; rintro e w9 ⟨rfl, hb9⟩)
          go_ret
          exact ⟨rfl, then_ (below_drewN hB m4) hb9 (Nat.le_refl _)⟩
end Go.Proofs.Ytkgkilogjodccaa
