/-
  The walk of shuffle.Some.
-/
import Derived.Test.YtalecppofemcnaaSomePlain
import Derived.Deep.DeepCutAuto
namespace Go.Proofs.Ytalecppofemcnaa
open Go.RowKit HB PickP ShufP Go.Maps
set_option linter.unusedVariables false
set_option linter.unusedSimpArgs false
set_option maxRecDepth 100000 in
set_option maxHeartbeats 4000000 in
theorem some_arg (A : Option Addr) (n c : Nat) (at_ k m : Int) (hm : k < 0 ∨ m < k ∨ 65536 < m) (w : World) :
    Calls Try.prog 21 #[.int .i64 k, .int .i64 m, Words.st A n c at_] w fun e w' => e = .returned (.tuple #[.slice none 0 0, Words.st A n c at_, .int .i64 22]) ∧ Below w.heap.size w w' := by
  rcases (show k < 0 ∨ (0 ≤ k ∧ m < k) ∨ (0 ≤ k ∧ k ≤ m ∧ 65536 < m) by omega) with h | ⟨h, h'⟩ | ⟨h, h', h''⟩
  all_goals
    clear hm
    go_enter Try.func21, Try.ntmps21
    go_wp2_with fail
    go_region
    all_goals
      go_wp2_with fail
      go_returns
      exact ⟨rfl, by go_grown⟩
def Some.Post (A : Option Addr) (n c k N : Nat) (at_ : Int) (ws : List Int) (w : World) (e : Ending) (w' : World) : Prop :=
  Below w.heap.size w w' ∧ ((0 < k ∧ (at_ < 0 ∨ (n : Int) < at_ + k) ∧ e = .returned (.tuple #[.slice none 0 0, Words.st A n c at_, .int .i64 50])) ∨
    ((0 < k → 0 ≤ at_ ∧ at_ + k ≤ n) ∧ ∃ v, e = .returned (.tuple #[v, Words.st A n c (at_ + (k : Nat)), .int .i64 0]) ∧ Own w' w.heap.size 3 1 (num .i64) v ((sme ws at_.toNat N k).take k)))
/-- what holds at the loop's head -/
structure Some.In (A : Option Addr) (n c k N : Nat) (at_ : Int) (ws : List Int) (b j : Nat) (o : Value) (W : World) : Prop where
  hj : j ≤ k
  hat : 0 < j → 0 ≤ at_ ∧ at_ + j ≤ n
  held : Order.Held b (b + 1 + 1 + 1 + 1) A n c at_ (at_ + j) W
  out : Own W (b + 1 + 1 + 1 + 1 + 1) 3 1 (num .i64) o ((sme ws at_.toNat N j).take j)
  ms : Ms W (b + 1 + 1) j (sme ws at_.toNat N j) j N
  seen : W.cell? ⟨b + 1 + 1 + 1, 0, none⟩ = some (.map (some (b + 1 + 1)))
  size : b + 1 + 1 + 1 + 1 < W.heap.size
theorem Some.In.below {A : Option Addr} {n c k N : Nat} {at_ : Int} {ws : List Int} {b j : Nat} {o : Value} {W W' : World} (h : Some.In A n c k N at_ ws b j o W) (hb : Below W.heap.size W W') : Some.In A n c k N at_ ws b j o W' :=
  ⟨h.hj, h.hat, h.held.below hb (by have := h.size; omega) h.size, h.out.below hb, h.ms.below hb, hold1 hb h.seen, Nat.lt_of_lt_of_le h.size hb.size⟩
theorem Ms.at_ {w w' : World} {b n j N : Nat} {S : List Int} (h : Ms w b n S j N) (hb : w'.heap[b]? = w.heap[b]?) : Ms w' b n S j N := by
  obtain ⟨D, ⟨es, clock, k1, k2, k3, k4⟩, h2⟩ := h
  exact ⟨D, ⟨es, clock, hb.trans k1, k2, k3, k4⟩, h2⟩
theorem Order.Held.blocks {b T : Nat} {A : Option Addr} {n c : Nat} {at_ cur : Int} {W w1 : World} (h : Order.Held b T A n c at_ cur W) (h0 : w1.heap[b]? = W.heap[b]?) (h1 : w1.heap[b + 1]? = W.heap[b + 1]?) (h2 : w1.heap[T]? = W.heap[T]?) : Order.Held b T A n c at_ cur w1 := by
  obtain ⟨k0, k1, k2, k3, f2, f3, k4, k5, f4, f5⟩ := h
  have hc : ∀ (g o : Nat), w1.heap[g]? = W.heap[g]? → w1.cell? ⟨g, o, none⟩ = W.cell? ⟨g, o, none⟩ := fun g o hg => World.cell?_of_block (a := ⟨g, o, none⟩) hg
  have hf : ∀ (g o : Nat), w1.heap[g]? = W.heap[g]? → w1.frozen? ⟨g, o, none⟩ = W.frozen? ⟨g, o, none⟩ := fun g o hg => World.frozen?_of_block (a := ⟨g, o, none⟩) hg
  exact ⟨(hc _ _ h0).trans k0, (hc _ _ h0).trans k1, (hc _ _ h1).trans k2, (hc _ _ h1).trans k3, (hf _ _ h1).trans f2, (hf _ _ h1).trans f3, (hc _ _ h2).trans k4, (hc _ _ h2).trans k5, (hf _ _ h2).trans f4, (hf _ _ h2).trans f5⟩
theorem Some.In.blocks {A : Option Addr} {n c k N : Nat} {at_ : Int} {ws : List Int} {b j : Nat} {o o' : Value} {l : List Int} {W W' : World} {cur : Int} (hh : Order.Held b (b + 1 + 1 + 1 + 1) A n c at_ cur W) (hb : Below (b + 1 + 1 + 1 + 1 + 1) W W') : Order.Held b (b + 1 + 1 + 1 + 1) A n c at_ cur W' :=
  hh.blocks (hb.block _ (by omega)) (hb.block _ (by omega)) (hb.block _ (by omega))
theorem ShufP.sme_mem {ws : List Int} {p n : Nat} (h : ∀ x ∈ ws, 0 ≤ x ∧ x ≤ 4294967295) (hn : n ≤ 4294967295) : ∀ j, j ≤ n → ∀ x ∈ sme ws p n j, 0 ≤ x ∧ x < n
  | 0, _, x, hx => by
    simp only [sme, row, List.mem_map, List.mem_range] at hx
    obtain ⟨i, hi, rfl⟩ := hx
    omega
  | j + 1, hj, x, hx => by
    have ih := sme_mem (p := p) h hn j (by omega)
    have hlt := pl_lt (q := p + j) h (show j < n by omega) hn
    obtain ⟨X, hX⟩ : ∃ X, (sme ws p n j)[j]? = some X := ⟨_, List.getElem?_eq_getElem (by rw [sme_length]; omega)⟩
    obtain ⟨Y, hY⟩ : ∃ Y, (sme ws p n j)[j + pl ws (p + j) (n - j)]? = some Y := ⟨_, List.getElem?_eq_getElem (by rw [sme_length]; exact hlt)⟩
    obtain ⟨a, ha⟩ := List.mem_iff_getElem?.1 hx
    rw [sme, sw_at hX hY] at ha
    split at ha
    · injection ha with ha; subst ha; exact ih _ (List.mem_of_getElem? hX)
    · split at ha
      · injection ha with ha; subst ha; exact ih _ (List.mem_of_getElem? hY)
      · exact ih _ (List.mem_of_getElem? ha)
set_option maxRecDepth 100000 in
set_option maxHeartbeats 8000000 in
theorem shuffle_some (A : Option Addr) (n c k N : Nat) (at_ : Int) (ws : List Int) (w : World) (hr : Rd w w.heap.size 1 A n (ws.map (Value.int .u32))) (hl : ws.length = n) (hw : ∀ x ∈ ws, (Lit.int .u32 x).wf = true) (hn : n ≤ 1000) (hk : k ≤ N) (hN : N ≤ 300) :
    Calls Try.prog 21 #[.int .i64 k, .int .i64 N, Words.st A n c at_] w (Some.Post A n c k N at_ ws w) := by
  have Hl := hide hl
  have Hw := hide hw
  have Hr := hide hr
  have HWB := hide (show ∀ x ∈ ws, 0 ≤ x ∧ x ≤ 4294967295 from fun x hx => bounds_u32 (hw x hx))
  have hmm := @run_makeMap Try.prog
  have d1 : decide ((65536 : Int) < (N : Int)) = false := by simp; omega
  have d2 : decide ((N : Int) < (k : Int)) = false := by simp; omega
  have d3 : decide (N < k) = false := by simp; omega
  have d4 : decide ((k : Int) < 0) = false := by simp
  have d5 : decide (65536 < N) = false := by simp; omega
  clear hl hw hr
  go_enter Try.func21, Try.ntmps21
  go_wp2_with fail
  clear hmm
  go_loopw [11, 34] (fun o i wr => ∃ j : Nat, i = .int .i64 j ∧ Some.In A n c k N at_ ws w.heap.size j o wr ∧ Below w.heap.size w wr) (fun _ i _ => k - (intOf i).toNat)
  case atStart =>
    refine ⟨0, rfl, ⟨Nat.zero_le _, fun h => by omega, ?_, ?_, ?_, by simp [go_sem], by simp⟩, by go_grown⟩
    · simp [Order.Held, go_sem]
    · exact Own.nil _ _ _ _ _
    · have h := Ms.made ((w.alloc (Words.box A n c at_)).alloc (Words.box none 0 0 0)) N
      rw [show ((w.alloc (Words.box A n c at_)).alloc (Words.box none 0 0 0)).heap.size = w.heap.size + 1 + 1 by simp] at h
      exact (h.below ((Below.refl _ _).alloc (Nat.le_refl _) _)).below ((Below.refl _ _).alloc (Nat.le_refl _) _)
  case round =>
    obtain ⟨j, rfl, hin, hbel⟩ := hrel
    have HI := hide hin
    have HB := hide hbel
    have hsz := hin.size
    have hjk := hin.hj
    have hcs := hin.seen
    obtain ⟨k0, k1, k2, k3, f2, f3, k4, k5, f4, f5⟩ := hin.held
    clear hin hbel
    by_cases hlt : j < k
    · have b0 : IntKind.u32.wrap ((N : Int) - (j : Int)) = (N : Int) - (j : Int) := by rw [IntKind.wrap_u32]; omega
      have b1 : IntKind.i64.wrap ((N : Int) - (j : Int)) = (N : Int) - (j : Int) := IntWalk.i64_in _ (by omega)
      have hy0 : (((N : Int) - (j : Int)) == 0) = false := by rw [beq_eq_false_iff_ne]; omega
      by_cases hd : at_ + j < 0 ∨ (n : Int) ≤ at_ + j
      · have HD := hide hd
        clear hd
        go_upto_region 12 with (go_at_call 37; refine (words_below_dry A n c _ _ (by omega) hy0 _ HD.out).mono ?_; rintro e w1 ⟨rfl, hb1⟩; have HB1 := hide hb1; clear hb1 k0 k1 k2 k3 f2 f3 k4 k5 f4 f5; obtain ⟨k0, k1, k2, k3, f2, f3, k4, k5, f4, f5⟩ := (HI.out.below HB1.out).held)
        have HI2 := hide ((HI.out.below HB1.out).below ((Below.refl _ _).alloc (Nat.le_refl _) (.cells #[.slice A n c, .int .i64 (at_ + (j : Int))] 24)))
        have HB2 := hide ((then_ HB.out HB1.out (Nat.le_refl _)).alloc (by have := HB1.out.size; omega) (.cells #[.slice A n c, .int .i64 (at_ + (j : Int))] 24))
        clear k0 k1 k2 k3 f2 f3 k4 k5 f4 f5
        generalize w1.alloc (.cells #[.slice A n c, .int .i64 (at_ + (j : Int))] 24) = w2 at *
        obtain ⟨k0, k1, k2, k3, f2, f3, -, -, -, -⟩ := HI2.out.held
        have s2 := set_same k2
        have s3 := set_same2 ⟨w.heap.size + 1, 0, none⟩ (by simp) k3
        go_region
        all_goals
          go_wp2_with fail
          refine bodyPost_ret (v := .tuple #[.slice none 0 0, Words.st A n c at_, .int .i64 50]) (by simp [results, Try.results21, go_sem, s2, s3]) rfl ⟨(((HB2.out.drew).setCell (by simp) _).setCell (by simp) _), .inl ⟨by omega, ?_, rfl⟩⟩
          have := HI.out.hat
          have := HD.out
          omega
      · have hp : 0 ≤ at_ := by
          rcases Nat.eq_zero_or_pos j with h | h
          · subst h; omega
          · exact (HI.out.hat h).1
        obtain ⟨p, rfl⟩ := Int.eq_ofNat_of_zero_le hp
        obtain ⟨r, hr⟩ : ∃ r : Nat, r = p + j := ⟨_, rfl⟩
        have hrn : r < n := by omega
        have hri : (p : Int) + (j : Int) = (r : Int) := by omega
        obtain ⟨b, off, x, rfl, hb, hg, c0⟩ := (Hr.out.below HB.out).int_at Hl.out hrn
        obtain ⟨x0, x1⟩ := bounds_u32 (Hw.out x (List.mem_of_getElem? hg))
        obtain ⟨n0, n1⟩ := num_range x0 x1 (show 0 < (N : Int) - (j : Int) by omega)
        obtain ⟨d, hdd⟩ := Int.eq_ofNat_of_zero_le n0
        have hdn : j + d < N := by omega
        have hpl := hide (show sme ws p N (j + 1) = sw (sme ws p N j) j (j + d) by
          simp only [sme, pl]
          rw [← hr, List.getD_eq_getElem?_getD, hg, Option.getD_some, show ((N - j : Nat) : Int) = (N : Int) - (j : Int) by omega, hdd]
          rfl)
        have hC := fun (W : World) (h : W.cell? ⟨b, off + r, none⟩ = some (.int .u32 x)) => words_below b off n c r x ((N : Int) - (j : Int)) (by omega) hy0 x0 x1 (by omega) (by omega) W hrn h
        simp only [hdd] at hC
        have HC := hide hC
        rw [hri] at k5
        have HR := hide hr
        have HRI := hide hri
        have C0 := hide c0
        have w0 : IntKind.u32.wrap (d : Int) = (d : Int) := by rw [IntKind.wrap_u32]; omega
        clear hC hdd n0 n1 hg hr hri hd hp c0
        go_upto_region 15 with (go_at_call 37; refine (HC.out _ C0.out).mono ?_; rintro e w1 ⟨rfl, hb1⟩; have HB1 := hide hb1; clear hb1 k0 k1 k2 k3 f2 f3 k4 k5 f4 f5; obtain ⟨k0, k1, k2, k3, f2, f3, k4, k5, f4, f5⟩ := (HI.out.below HB1.out).held; have hz1 := (HI.out.below HB1.out).size)
        have hI1 := HI.out.below HB1.out
        have hHp := hI1.held.put (by omega) ((r : Int) + 1)
        have hba : Below ((w1.setCell ⟨w.heap.size + 1 + 1 + 1 + 1, 0, none⟩ (.slice (some ⟨b, off, none⟩) n c)).setCell ⟨w.heap.size + 1 + 1 + 1 + 1, 1, none⟩ (.int .i64 ((r : Int) + 1))).heap.size ((w1.setCell ⟨w.heap.size + 1 + 1 + 1 + 1, 0, none⟩ (.slice (some ⟨b, off, none⟩) n c)).setCell ⟨w.heap.size + 1 + 1 + 1 + 1, 1, none⟩ (.int .i64 ((r : Int) + 1))) (((w1.setCell ⟨w.heap.size + 1 + 1 + 1 + 1, 0, none⟩ (.slice (some ⟨b, off, none⟩) n c)).setCell ⟨w.heap.size + 1 + 1 + 1 + 1, 1, none⟩ (.int .i64 ((r : Int) + 1))).alloc (.cells #[.slice (some ⟨b, off, none⟩) n c, .int .i64 ((r : Int) + 1)] 24)) := (Below.refl _ _).alloc (Nat.le_refl _) _
        have htn : (p : Int).toNat = p := rfl
        have hI1o := hI1.out
        have hI1m := hI1.ms
        rw [htn] at hI1o hI1m
        have HH3 := hide (hHp.below hba (by simp; omega) (by simp; omega))
        have HO3 := hide (((hI1o.setBelow (p := ⟨w.heap.size + 1 + 1 + 1 + 1, 0, none⟩) (by simp) (.slice (some ⟨b, off, none⟩) n c)).setBelow (p := ⟨w.heap.size + 1 + 1 + 1 + 1, 1, none⟩) (by simp) (.int .i64 ((r : Int) + 1))).below hba)
        have HM3 := hide ((hI1m.at_ (w' := ((w1.setCell ⟨w.heap.size + 1 + 1 + 1 + 1, 0, none⟩ (.slice (some ⟨b, off, none⟩) n c)).setCell ⟨w.heap.size + 1 + 1 + 1 + 1, 1, none⟩ (.int .i64 ((r : Int) + 1)))) (by rw [Below.heap_setCell _ _ _ _ (by simp), Below.heap_setCell _ _ _ _ (by simp)])).below hba)
        have hs3 : (((w1.setCell ⟨w.heap.size + 1 + 1 + 1 + 1, 0, none⟩ (.slice (some ⟨b, off, none⟩) n c)).setCell ⟨w.heap.size + 1 + 1 + 1 + 1, 1, none⟩ (.int .i64 ((r : Int) + 1))).alloc (.cells #[.slice (some ⟨b, off, none⟩) n c, .int .i64 ((r : Int) + 1)] 24)).cell? ⟨w.heap.size + 1 + 1 + 1, 0, none⟩ = some (.map (some (w.heap.size + 1 + 1))) := hold1 hba ((World.cell?_setCell_other _ _ _ _ (by intro e; injection e with e _ _; omega)).trans ((World.cell?_setCell_other _ _ _ _ (by intro e; injection e with e _ _; omega)).trans hI1.seen))
        have HB3 := hide (((then_ HB.out HB1.out (Nat.le_refl _)).setCell (p := ⟨w.heap.size + 1 + 1 + 1 + 1, 0, none⟩) (by simp; omega) (.slice (some ⟨b, off, none⟩) n c)).setCell (p := ⟨w.heap.size + 1 + 1 + 1 + 1, 1, none⟩) (by simp; omega) (.int .i64 ((r : Int) + 1)) |>.alloc (by simp; omega) (.cells #[.slice (some ⟨b, off, none⟩) n c, .int .i64 ((r : Int) + 1)] 24))
        have hz3 : w.heap.size + 1 + 1 + 1 + 1 < (((w1.setCell ⟨w.heap.size + 1 + 1 + 1 + 1, 0, none⟩ (.slice (some ⟨b, off, none⟩) n c)).setCell ⟨w.heap.size + 1 + 1 + 1 + 1, 1, none⟩ (.int .i64 ((r : Int) + 1))).alloc (.cells #[.slice (some ⟨b, off, none⟩) n c, .int .i64 ((r : Int) + 1)] 24)).heap.size := by simp; omega
        have HIJ := hide (HI.out.hat)
        clear k0 k1 k2 k3 f2 f3 k4 k5 f4 f5 hI1 hI1o hI1m htn hHp hba HI HB HB1 hsz hz1 hcs HC C0
        generalize ((w1.setCell ⟨w.heap.size + 1 + 1 + 1 + 1, 0, none⟩ (.slice (some ⟨b, off, none⟩) n c)).setCell ⟨w.heap.size + 1 + 1 + 1 + 1, 1, none⟩ (.int .i64 ((r : Int) + 1))).alloc (.cells #[.slice (some ⟨b, off, none⟩) n c, .int .i64 ((r : Int) + 1)] 24) = w3 at *
        obtain ⟨X, hX⟩ : ∃ X, (sme ws p N j)[j]? = some X := ⟨_, List.getElem?_eq_getElem (by rw [sme_length]; omega)⟩
        obtain ⟨Y, hY⟩ : ∃ Y, (sme ws p N j)[j + d]? = some Y := ⟨_, List.getElem?_eq_getElem (by rw [sme_length]; omega)⟩
        have HXX := hide hX
        have HYY := hide hY
        have hlen : ((sme ws p N j).take j).length ≤ 1000000000 := by rw [List.length_take, sme_length]; omega
        have HLN := hide hlen
        have p0 : ((j : Int) + (d : Int)) = ((j + d : Nat) : Int) := by omega
        have HSA := hide (some_at (w.heap.size + 1 + 1 + 1) (w.heap.size + 1 + 1) j j N (j + d) (sme ws p N j) w3 HM3.out (by omega) hdn (by omega) hs3)
        rw [← p0] at HSA
        clear hX hY hlen p0
        go_upto_region 16 with (first
          | (go_at_call 43; refine (HSA.out).mono ?_; rintro e w4 ⟨⟨y, rfl, hy⟩, rfl⟩; have hyy : Y = y := (by have := HYY.out; rw [hy] at this; injection this with this; exact this.symm); subst hyy; clear hy)
          | (at_builtin; refine push rfl _ _ 26 rfl Try.underlying26 Order.info rfl (by omega) (by omega) rfl (HO3.out.alloc _) Y ⟨_, 0, none⟩ 1 rfl rfl (cell_one_new _ _ _) (by simp [Value.oneCell']) HLN.out (by simp; omega) ?_; intro v' w5 hown5 hb5; have HO5 := hide hown5; have HB5 := hide hb5; clear hown5 hb5))
        have hz5 := HB5.out.size
        simp only [World.size_alloc] at hz5
        have hb45 : Below (w.heap.size + 1 + 1 + 1 + 1 + 1) w4 w5 := ((Below.refl _ w4).alloc (by omega) _).trans HB5.out
        have HH5 := hide (HH3.out.blocks (hb45.block _ (by omega)) (hb45.block _ (by omega)) (hb45.block _ (by omega)))
        have HM5 := hide (HM3.out.at_ (hb45.block _ (by omega)))
        have hs5 : w5.cell? ⟨w.heap.size + 1 + 1 + 1, 0, none⟩ = some (.map (some (w.heap.size + 1 + 1))) := (hb45.cell (p := ⟨w.heap.size + 1 + 1 + 1, 0, none⟩) (by simp)).trans hs3
        have HBB := hide (HB3.out.trans (hb45.mono (by omega)))
        have HWF := hide (show (Lit.int .i64 X).wf = true from WalkArith.wf_i64 (by
          have := sme_mem (p := p) HWB.out (by omega) j (by omega) X (List.mem_of_getElem? HXX.out)
          omega))
        have p1 : ((j + d : Nat) : Int) = (j : Int) + (d : Int) := by omega
        have HP1 := hide p1
        clear HH3 HM3 HB3 hs3 hb45 HSA HO3 HB5 p1
        go_region_with (go_at_call 43; refine (some_at (w.heap.size + 1 + 1 + 1) (w.heap.size + 1 + 1) j j N j (sme ws p N j) _ (HM5.out.below (Below.refl _ _).drew) (Nat.le_refl _) (by omega) (by omega) (hold1 (Below.refl _ _).drew hs5)).mono ?_; rintro e w6 ⟨⟨y, rfl, hy⟩, rfl⟩; have hyy : X = y := (by have := HXX.out; rw [hy] at this; injection this with this; exact this.symm); subst hyy; clear hy; obtain ⟨w7, hrun7, hms7, hgr7⟩ := (HM5.out.below (Below.refl _ _).drew).store (by simp only [maxLen]; omega) HXX.out HYY.out (Nat.le_add_right _ _) (by omega) HWF.out; rw [HP1.out] at hrun7; have HM7 := hide hms7; have HG7 := hide hgr7; clear hms7 hgr7)
        all_goals
          go_wp2_with fail
          go_roundw
          case rel =>
            have hnb : ∀ q, q < w5.heap.size → q ≠ w.heap.size + 1 + 1 → w7.heap[q]? = w5.heap[q]? := fun q hq hne => HG7.out.block q hq (fun e => hne (by injection e))
            refine ⟨j + 1, by go_num, ⟨by omega, fun _ => ⟨by omega, by have := HRI.out; omega⟩, ?_, ?_, ?_, (World.cell?_of_block (a := ⟨w.heap.size + 1 + 1 + 1, 0, none⟩) (hnb (w.heap.size + 1 + 1 + 1) (by omega) (by omega))).trans hs5, by have := HG7.out.size; simp only [World.size_drew] at this; omega⟩, ?_⟩
            · rw [show ((p : Int) + ((j + 1 : Nat) : Int)) = (r : Int) + 1 by have := HRI.out; omega]
              exact HH5.out.blocks (hnb _ (by omega) (by omega)) (hnb _ (by omega) (by omega)) (hnb _ (by omega) (by omega))
            · show Own w7 _ _ _ _ _ ((sme ws p N (j + 1)).take (j + 1))
              rw [hpl.out, take_next HXX.out HYY.out (Nat.le_add_right _ _)]
              refine World.ownsRow.kept (row := some (w.heap.size + 1 + 1)) HO5.out.drew.row HG7.out ?_
              cases ho : v'.ownBlock with
              | none => simp
              | some q => have := (HO5.out.row.lt q ho).1; exact .inr (fun e => by injection e with e; omega)
            · show Ms w7 _ _ (sme ws p N (j + 1)) _ _
              rw [hpl.out]; exact HM7.out
            · exact HBB.out.drew.grown HG7.out (by have := HBB.out.size; simpa using this) (fun q hq => by injection hq with hq; omega)
          case measure => simp [intOf]; omega
    · obtain rfl : j = k := by omega
      have s2 := set_same k2
      have s3 := set_same2 ⟨w.heap.size + 1, 0, none⟩ (by simp) k3
      go_wp2_with fail
      go_region
      all_goals
        go_wp2_with fail
        refine bodyPost_ret (v := .tuple #[u11, Words.st A n c (at_ + j), .int .i64 0]) (by simp [results, Try.results21, go_sem, s2, s3]) rfl ⟨((HB.out.drew).setCell (by simp) _).setCell (by simp) _, .inr ⟨HI.out.hat, _, rfl, ?_⟩⟩
        exact Own.small ((HI.out.out.drew.setBelow (p := ⟨w.heap.size + 1, 0, none⟩) (by simp) _).setBelow (p := ⟨w.heap.size + 1, 1, none⟩) (by simp) _) (by omega)
end Go.Proofs.Ytalecppofemcnaa
