/-
  The walk of the law HistSums at a width below 1.
-/
import Derived.Test.YtkgkilogjodccaaRows
import Derived.Test.YtkgkilogjodccaaFrame
import Derived.Test.YtkgkilogjodccaaSumA
namespace Go.Proofs.Ytkgkilogjodccaa
open Go.ChangeShapes Go.WideShapes Go.ChangeAt Go.RowKit HB SumH HistP
set_option linter.unusedVariables false
set_option linter.unusedSimpArgs false

set_option maxRecDepth 100000 in
set_option maxHeartbeats 8000000 in
theorem histSums_less (A A' : Option Addr) (n c n' c' : Nat) (a b : List Int) (k : Int) (w : World) (ha : Rd w w.heap.size 1 A n (a.map (Value.int .i64))) (hla : a.length = n) (hb : Rd w w.heap.size 1 A' n' (b.map (Value.int .i64))) (hlb : b.length = n') (hwa : ∀ x ∈ a, (Lit.int .i64 x).wf = true) (hwb : ∀ x ∈ b, (Lit.int .i64 x).wf = true) (hn : n ≤ 100) (hn' : n' ≤ 100) (hk : k < 1) :
    Calls Try.prog 8 #[.slice A n c, .slice A' n' c', .int .i64 k] w fun e w' => e = .returned (.bool true) ∧ Below w.heap.size w w' := by
  have HA := hide ha
  have HB := hide hb
  have HLA := hide hla
  have HLB := hide hlb
  have HWA := hide hwa
  have HWB := hide hwb
  have WA : Hid (∀ u ∈ a, wrap64 u = u) := hide (fun u hu => by have := bounds_i64 (hwa u hu); unfold wrap64; omega)
  have WB : Hid (∀ u ∈ b, wrap64 u = u) := hide (fun u hu => by have := bounds_i64 (hwb u hu); unfold wrap64; omega)
  have h100 : decide (100 < n) = false := by simp; omega
  have h101 : decide (100 < n') = false := by simp; omega
  obtain ⟨M, hM⟩ : ∃ M, max n n' = M := ⟨_, rfl⟩
  have HM := hide hM
  have hM1 : M ≤ 100 := by omega
  have hM2 : n ≤ M := by omega
  have hM3 : n' ≤ M := by omega
  have hM4 : M = n ∨ M = n' := by omega
  clear ha hb hla hlb hwa hwb hM
  have k1 : decide ((1 : Int) ≤ k) = false := by simp; omega
  have k2 : decide (k < 1) = true := by simp; omega
  go_enter Try.func8, Try.ntmps8
  go_wp2_with fail
  go_loopw [7, 10] (fun o i wr => ∃ j : Nat, j ≤ max n n' ∧ i = .int .i64 j ∧ Own wr w.heap.size 3 1 (num .i64) o (adds a b j) ∧ Below w.heap.size w wr) (fun _ i _ => M - (intOf i).toNat)
  case atStart => exact ⟨0, Nat.zero_le _, rfl, Own.nil _ _ _ _ _, Below.refl _ _⟩
  case round =>
    obtain ⟨j, hj, rfl, hown, hbel⟩ := hrel
    rw [HM.out] at hj
    have HO := hide hown
    clear hown
    have hz := hbel.size
    have hL : (adds a b j).length ≤ 1000000000 := by rw [adds_length]; omega
    by_cases hlt : j < M
    · have dj : decide ((j : Int) < max (n : Int) (n' : Int)) = true := by simp; omega
      by_cases h1 : j < n
      · obtain ⟨b1, off1, x, rfl, hb1, hga, c1⟩ := (HA.out.below hbel).int_at HLA.out h1
        have hwx := bounds_i64 (HWA.out x (List.mem_of_getElem? hga))
        have hwx1 := hwx.1
        have hwx2 := hwx.2
        by_cases h2 : j < n'
        · obtain ⟨b2, off2, y, rfl, hb2, hgb, c2⟩ := (HB.out.below hbel).int_at HLB.out h2
          have hv := hide (show sm a b j = wrap64 (x + y) by unfold sm; simp only [List.getD, hga, hgb, Option.getD_some])
          clear hga hgb
          go_wp2_with (at_builtin; refine push rfl _ _ 35 rfl Try.underlying35 Sums.info rfl (by omega) (by omega) rfl (HO.out.alloc _) (wrap64 (x + y)) ⟨_, 0, none⟩ 1 rfl rfl (cell_one_new _ _ _) (by simp [Value.oneCell']) hL (Nat.le_trans hz (by simp)) ?_; intro v' w1 hown1 hb1)
          go_roundw
          case rel => exact ⟨j + 1, by rw [HM.out]; omega, by go_num, by rw [adds_next, hv.out]; exact hown1, (hbel.alloc hz _).trans hb1⟩
          case measure => simp [intOf]; omega
        · have hgb : b[j]? = none := List.getElem?_eq_none (by rw [HLB.out]; omega)
          have hwr : wrap64 (x + 0) = x := by unfold wrap64; omega
          have hv := hide (show sm a b j = x by unfold sm; simp only [List.getD, hga, hgb, Option.getD_some, Option.getD_none]; exact hwr)
          clear hga hgb hwr
          go_wp2_with (at_builtin; refine push rfl _ _ 35 rfl Try.underlying35 Sums.info rfl (by omega) (by omega) rfl (HO.out.alloc _) (x) ⟨_, 0, none⟩ 1 rfl rfl (cell_one_new _ _ _) (by simp [Value.oneCell']) hL (Nat.le_trans hz (by simp)) ?_; intro v' w1 hown1 hb1)
          go_roundw
          case rel => exact ⟨j + 1, by rw [HM.out]; omega, by go_num, by rw [adds_next, hv.out]; exact hown1, (hbel.alloc hz _).trans hb1⟩
          case measure => simp [intOf]; omega
      · obtain ⟨b2, off2, y, rfl, hb2, hgb, c2⟩ := (HB.out.below hbel).int_at HLB.out (show j < n' by omega)
        have hga : a[j]? = none := List.getElem?_eq_none (by rw [HLA.out]; omega)
        have hwy := bounds_i64 (HWB.out y (List.mem_of_getElem? hgb))
        have hwy1 := hwy.1
        have hwy2 := hwy.2
        have hwr : wrap64 (0 + y) = y := by unfold wrap64; omega
        have hv := hide (show sm a b j = y by unfold sm; simp only [List.getD, hga, hgb, Option.getD_some, Option.getD_none]; exact hwr)
        clear hga hgb hwr
        go_wp2_with (at_builtin; refine push rfl _ _ 35 rfl Try.underlying35 Sums.info rfl (by omega) (by omega) rfl (HO.out.alloc _) (y) ⟨_, 0, none⟩ 1 rfl rfl (cell_one_new _ _ _) (by simp [Value.oneCell']) hL (Nat.le_trans hz (by simp)) ?_; intro v' w1 hown1 hb1)
        go_roundw
        case rel => exact ⟨j + 1, by rw [HM.out]; omega, by go_num, by rw [adds_next, hv.out]; exact hown1, (hbel.alloc hz _).trans hb1⟩
        case measure => simp [intOf]; omega
    · obtain rfl : j = M := by omega
      have dj : decide ((j : Int) < max (n : Int) (n' : Int)) = false := by simp; omega
      have hOs := HO
      clear HO hL
      go_wp2_with fail
      go_loop [9, 12] (fun s i => ∃ q : Nat, q ≤ n ∧ i = .int .i64 q ∧ s = .int .i64 (wrap64 (sum (a.take q)))) (fun _ i => n - (intOf i).toNat)
      case atStart => exact ⟨0, Nat.zero_le _, rfl, by rw [show sum (a.take 0) = 0 from rfl, show wrap64 0 = 0 from by unfold wrap64; omega]⟩
      case round =>
        obtain ⟨q, hq, rfl, rfl⟩ := hrel
        by_cases hq2 : q < n
        · obtain ⟨b1, off1, x, rfl, hb1, hga, c1⟩ := (HA.out.below hbel).int_at HLA.out hq2
          have htk : wrap64 (wrap64 (sum (a.take q)) + x) = wrap64 (sum (a.take (q + 1))) := by rw [Sums.w_add, List.take_add_one, hga, sum_append]; simp [sum]
          have T := hide htk
          clear htk hga
          generalize hs : wrap64 (sum (a.take q)) = s at *
          clear hs
          go_wp2_with fail
          go_round
          case rel => exact ⟨q + 1, by omega, by go_num, by rw [← T.out]⟩
          case measure => simp [intOf]; omega
        · have hf : a.take q = a := List.take_of_length_le (by rw [HLA.out]; omega)
          rw [hf]
          generalize hs : wrap64 (sum a) = s
          have S := hide hs
          clear hs hf
          have hO := hOs.out
          obtain ⟨A7, c7, rfl, hc7, hrd7⟩ := hO.ints
          rw [adds_length] at hc7 hrd7
          simp only [adds_length]
          have HR7 := hide hrd7
          clear hrd7 hO
          go_wp2_with fail
          refine (hist_wider_no A n c k _ hk).mono ?_; rintro e w' ⟨rfl, rfl⟩
          go_wp2_with fail
          refine (hist_add A A' n c n' c' a b _ ((HA.out.below hbel).mono hz) HLA.out ((HB.out.below hbel).mono hz) HLB.out (by omega) (by omega) WA.out WB.out).mono ?_; rintro e w4 ⟨v4, rfl, hown4, hb4⟩
          rw [HM.out] at hown4
          obtain ⟨A4, c4, rfl, hc4, hrd4⟩ := hown4.ints
          rw [adds_length] at hc4 hrd4
          simp only [adds_length]
          have HR4 := hide hrd4
          have HR7' := hide (HR7.out.below hb4)
          have hB := then_ hbel hb4 (Nat.le_refl _)
          clear hrd4 hown4
          go_wp2_with fail
          refine (eqInt _ _ _ _ _ _ _ _ _ _ _ HR4.out HR7'.out (by omega) (by omega)).mono ?_; rintro e w3 ⟨rfl, mm, rfl⟩
          simp only [decide_true]
          go_wp2_with fail
          refine (hist_total_w A n c w.heap.size a _ ((HA.out.below hB).drewN mm) HLA.out (by omega)).mono ?_; rintro e w' ⟨rfl, rfl⟩; simp only [S.out]
          go_wp2_with (go_at_call 29; refine (hist_alive _).mono ?_; rintro e w9 ⟨rfl, hb9⟩)
          go_ret
          exact ⟨rfl, then_ (below_drewN hB mm) hb9 (Nat.le_refl _)⟩
end Go.Proofs.Ytkgkilogjodccaa
