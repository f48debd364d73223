/-
  tape.legs: a car's legs, read.
-/
import Derived.Test.YtknmpfimnbenjaaTapeTrips
namespace Go.Proofs.Ytknmpfimnbenjaa
open Go.RowKit HB PackP TapeP
set_option linter.unusedVariables false
set_option linter.unusedSimpArgs false
/-- four cells in a block -/
structure Q4 (w : World) (q : Nat) (a b c d : Value) : Prop where
  hq : q < w.heap.size
  c0 : w.cell? ⟨q, 0, none⟩ = some a
  c1 : w.cell? ⟨q, 1, none⟩ = some b
  c2 : w.cell? ⟨q, 2, none⟩ = some c
  c3 : w.cell? ⟨q, 3, none⟩ = some d
  f : ∀ j, w.frozen? ⟨q, j, none⟩ = false
theorem Q4.new (w : World) (a b c d : Value) (ty : TypeId) : Q4 (w.alloc (.cells #[a, b, c, d] ty)) w.heap.size a b c d := by
  refine ⟨by simp, ?_, ?_, ?_, ?_, fun j => World.frozen?_alloc_at _ _ _ _ rfl⟩
  · rw [cell_of_row _ w.heap.size 0 _ ty (0, 0) (heap_alloc_new w _)]; rfl
  · rw [cell_of_row _ w.heap.size 1 _ ty (0, 0) (heap_alloc_new w _)]; rfl
  · rw [cell_of_row _ w.heap.size 2 _ ty (0, 0) (heap_alloc_new w _)]; rfl
  · rw [cell_of_row _ w.heap.size 3 _ ty (0, 0) (heap_alloc_new w _)]; rfl
theorem Q4.grown {w w' : World} {q : Nat} {a b c d : Value} {row : Option Nat} (h : Q4 w q a b c d) (hg : w.grownBy w' row) (hne : some q ≠ row) : Q4 w' q a b c d := by
  have hb := hg.block q h.hq hne
  have k := fun j => World.cell?_of_block (w := w) (w' := w') (a := ⟨q, j, none⟩) hb
  exact ⟨Nat.lt_of_lt_of_le h.hq hg.size, (k 0).trans h.c0, (k 1).trans h.c1, (k 2).trans h.c2, (k 3).trans h.c3, fun j => by rw [World.frozen?_of_block (w := w) (a := ⟨q, j, none⟩) hb]; exact h.f j⟩
theorem Q4.set3 {w : World} {q : Nat} {a b c d : Value} (h : Q4 w q a b c d) (y : Value) : Q4 (w.setCell ⟨q, 3, none⟩ y) q a b c y := by
  have n : ∀ j, j ≠ 3 → (⟨q, j, none⟩ : Addr) ≠ ⟨q, 3, none⟩ := fun j hj e => by injection e with _ e _; exact hj e
  refine ⟨Nat.lt_of_lt_of_le h.hq (grown_setCell w q 3 _).size, ?_, ?_, ?_, World.cell?_setCell_same w _ _ h.c3, fun j => by rw [World.frozen?_setCell]; exact h.f j⟩
  · exact (World.cell?_setCell_other w _ _ _ (n 0 (by omega)).symm).trans h.c0
  · exact (World.cell?_setCell_other w _ _ _ (n 1 (by omega)).symm).trans h.c1
  · exact (World.cell?_setCell_other w _ _ _ (n 2 (by omega)).symm).trans h.c2
theorem gs_le (s : St) {m : Int} (hm : 0 ≤ m) : (gs s m : Int) ≤ m := by
  simp only [gs, sv]
  split <;> omega
set_option maxRecDepth 100000 in
set_option maxHeartbeats 4000000 in
theorem tape_legs (p B : Nat) (s : St) (w : World) (h : Rs w p B s) :
    Calls Try.prog 58 #[.pointer (some ⟨p, 0, none⟩)] w fun e w' => (∃ v, e = .returned v ∧ OwnL w' w.heap.size v (rC s).1) ∧ Rs w' p B (rC s).2 ∧ w.grownBy w' (some p) := by
  have hp := h.r.hp
  have HH := hide h
  obtain ⟨k, hk⟩ : ∃ k, k = gs s (lft s) := ⟨_, rfl⟩
  have hk1 : k ≤ 1000000 := by have h1 := gs_le s (m := lft s) (by unfold lft; omega); rw [← hk] at h1; have h2 := h.l; unfold lft at h1; omega
  have hlf : 0 ≤ lft s ∧ lft s ≤ 1000000 := by have h2 := h.l; unfold lft; omega
  have HC := hide (show rC s = rLs k (sm s (lft s)) from by rw [hk]; rfl)
  have HK := hide hk
  clear h hk
  rw [HC.out]
  go_enter Try.func58, Try.ntmps58
  go_wp2_with (first
    | (go_at_call 25; refine (rs_left HH.out).mono ?_; rintro e w1 ⟨rfl, rfl⟩)
    | (go_at_call 54; refine (rs_small HH.out (lft s) (by omega) (by omega)).mono ?_; rintro e w2 ⟨rfl, hr2, hg2⟩; rw [← HK.out]; have HR2 := hide hr2; have HG2 := hide ((Gp.refl w.heap.size p w).grown hg2 (Nat.le_refl _)); clear hr2 hg2))
  go_loopw [3, 5] (fun o i wr => ∃ (j : Nat) (s' : St) (ts' : List Lg), j ≤ k ∧ i = .int .i64 j ∧ OwnL wr w.heap.size o ts' ∧ ts'.length ≤ j ∧ Rs wr p B s' ∧ rLs k (sm s (lft s)) = (ts' ++ (rLs (k - j) s').1, (rLs (k - j) s').2) ∧ Gp w.heap.size p w wr) (fun _ i _ => k - (intOf i).toNat)
  case atStart => exact ⟨0, _, [], Nat.zero_le _, rfl, Own.nil _ _ _ _ _, Nat.le_refl _, HR2.out, rfl, HG2.out⟩
  case round =>
    obtain ⟨j, s', ts', hj, rfl, hown, htl, hrs, heq, hgp⟩ := hrel
    have HO := hide hown
    have HR := hide hrs
    have HE := hide heq
    have HG := hide hgp
    have hz := hgp.size
    clear hown hrs heq hgp HH HR2 HG2
    have fin_ : rLs (k - j) s' = ([], s') → rLs k (sm s (lft s)) = (ts', s') := fun h => by rw [HE.out, h]; simp
    by_cases hlt : j < k
    · cases hb : s'.2 with
      | true =>
        have HF := hide (fin_ (rLs_no hb))
        clear fin_
        go_wp2_with (go_at_call 26; refine (rs_bad HR.out).mono ?_; rintro e w1 ⟨rfl, rfl⟩; rw [hb])
        go_ret
        rw [HF.out]
        exact ⟨⟨_, rfl, HO.out⟩, HR.out, HG.out.out⟩
      | false =>
        obtain ⟨m, hm⟩ : ∃ m, k - j = m + 1 := ⟨k - j - 1, by omega⟩
        have HE2 := hide (show rLs k (sm s (lft s)) = ((ts' ++ [rL s']) ++ (rLs (k - (j + 1)) (nL s')).1, (rLs (k - (j + 1)) (nL s')).2) from by
          rw [HE.out, hm, rLs_yes hb, show k - (j + 1) = m by omega]; simp)
        clear fin_ hm
        go_wp2_with (first
          | (go_at_call 26; refine (rs_bad HR.out).mono ?_; rintro e w1 ⟨rfl, rfl⟩; rw [hb])
          | (go_at_call 23; refine (rs_int HR.out).mono ?_; rintro e w1 ⟨rfl, hr1, hg1⟩)
          | (go_at_call 23; refine (rs_int hr1).mono ?_; rintro e w2 ⟨rfl, hr2, hg2⟩)
          | (go_at_call 23; refine (rs_int hr2).mono ?_; rintro e w3 ⟨rfl, hr3, hg3⟩; have hp3 := hr3.r.hp; have HQ3 := hide (Q4.new w3 (.int .i64 (gi s')) (.int .i64 (gi (nx s'))) (.int .i64 (gi (nx (nx s')))) (.bool false) 102); have HR3 := hide (hr3.below ((Below.refl w3.heap.size w3).alloc (Nat.le_refl _) (.cells #[.int .i64 (gi s'), .int .i64 (gi (nx s')), .int .i64 (gi (nx (nx s'))), .bool false] 102)) hp3))
          | (go_at_call 54; refine (rs_small HR3.out 1 (by omega) (by omega)).mono ?_; rintro e w4 ⟨rfl, hr4, hg4⟩; obtain ⟨ob, hob⟩ : ∃ ob, ob = decide ((gs (nx (nx (nx s'))) 1 : Int) = 1) := ⟨_, rfl⟩; have hob2 : ((gs (nx (nx (nx s'))) 1 : Int) == 1) = ob := hob.symm; have HOB := hide hob; have HQ4 := hide (HQ3.out.grown hg4 (fun he => by injection he with he; omega)); have c0 := HQ4.out.c0; have c1 := HQ4.out.c1; have c2 := HQ4.out.c2; have c3 := HQ4.out.c3; have f3 := HQ4.out.f 3; have hg13 := (hg1.trans hg2).trans hg3; have HW3 := hide ((Gp.refl wr.heap.size p wr).grown hg13 (Nat.le_refl _)); have HW5 := hide (((HW3.out.below ((Below.refl wr.heap.size w3).alloc HW3.out.size _)).grown hg4 (Nat.le_trans HW3.out.size (by simp))).below ((Below.refl wr.heap.size w4).setCell (p := ⟨w3.heap.size, 3, none⟩) HW3.out.size (.bool ob))); have HR5 := hide (hr4.below ((Below.refl w3.heap.size w4).setCell (p := ⟨w3.heap.size, 3, none⟩) (Nat.le_refl _) (.bool ob)) hp3); have HGW := hide (HG.out.grown HW5.out.out hz); have HO5 := hide (Own.grownP HO.out HW5.out.out hp); have hz5 := HGW.out.size; have hz6 : w.heap.size ≤ w4.heap.size := (by simpa using hz5); have hlc : lc (rL s') = [.int .i64 (gi s'), .int .i64 (gi (nx s')), .int .i64 (gi (nx (nx s'))), .bool ob] := (by show [Value.int .i64 (gi s'), .int .i64 (gi (nx s')), .int .i64 (gi (nx (nx s'))), .bool (decide ((gs (nx (nx (nx s'))) 1 : Int) = 1))] = _; rw [← HOB.out]); have HLC := hide hlc; clear hob hlc hg1 hg2 hg3 hg4 hr1 hr2 hr3 hr4 hg13 HQ3 HR3 HQ4 HW3 HW5)
          | (at_builtin; refine push rfl _ _ 97 rfl Try.underlying97 Leg.info rfl (by omega) (by omega) rfl (HO5.out.alloc _) (rL s') ⟨_, 0, none⟩ 1 rfl rfl (by rw [HLC.out]; exact cells_new _ _ [.int .i64 (gi s'), .int .i64 (gi (nx s')), .int .i64 (gi (nx (nx s'))), .bool ob] _ (by simp)) (lc_one _) (by omega) (by go_size) ?_; intro v8 w8 hown8 hb8))
        have hb9 := ((Below.refl w.heap.size _).alloc hz5 _).trans hb8
        go_roundw
        case rel => exact ⟨j + 1, nL s', ts' ++ [rL s'], by omega, by go_num, hown8, by simp; omega, HR5.out.below hb9 hp, HE2.out, HGW.out.below hb9⟩
        case measure => simp [intOf]; omega
    · obtain rfl : j = k := by omega
      have HF := hide (fin_ (by rw [Nat.sub_self]; rfl))
      go_wp2_with fail
      go_ret
      rw [HF.out]
      exact ⟨⟨_, rfl, HO.out⟩, HR.out, HG.out.out⟩
end Go.Proofs.Ytknmpfimnbenjaa
