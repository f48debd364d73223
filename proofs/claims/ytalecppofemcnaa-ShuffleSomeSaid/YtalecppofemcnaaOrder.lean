/-
  The walk of shuffle.Order over a stream whose words read as a list.
-/
import Derived.Test.YtalecppofemcnaaWordsB
import Derived.Test.YtalecppofemcnaaOwn
import Derived.Test.YtalecppofemcnaaShufPlain
import Derived.Deep.OwnRows
import Derived.OneCell
import Derived.BigRegion
namespace Go.Proofs.Ytalecppofemcnaa
open Go.RowKit HB PickP ShufP
set_option linter.unusedVariables false
set_option linter.unusedSimpArgs false
theorem Order.info : (Try.prog.info? 3).map (fun i => (i.zero, i.size, i.bytes)) = some (some (.int .i64 0), 1, 8) := by kernel_rfl
theorem HB.Own.setFar {α : Type} {w : World} {base : Nat} {e : TypeId} {sz : Nat} {f : α → List Value} {v : Value} {l : List α} (h : Own w base e sz f v l) {p : Addr} (hp : v.ownBlock ≠ some p.block) (u : Value) : Own (w.setCell p u) base e sz f v l :=
  ownsRow_setCell_other h hp u

theorem order_arg (A : Option Addr) (n c : Nat) (at_ m : Int) (hm : m < 0 ∨ 65536 < m) (w : World) :
    Calls Try.prog 12 #[.int .i64 m, Words.st A n c at_] w fun e w' => e = .returned (.tuple #[.slice none 0 0, Words.st A n c at_, .int .i64 22]) ∧ Below w.heap.size w w' := by
  rcases (show m < 0 ∨ (0 ≤ m ∧ 65536 < m) by omega) with h | ⟨h, h'⟩
  all_goals
    go_enter Try.func12, Try.ntmps12
    go_wp2_with fail
    go_region
    all_goals
      go_wp2_with fail
      go_returns
      exact ⟨rfl, by go_grown⟩

/-- what holds of the boxes: the stream that came in (at b), the result's (at b + 1), the one in use (at T) -/
def Order.Held (b T : Nat) (A : Option Addr) (n c : Nat) (at_ cur : Int) (W : World) : Prop :=
  W.cell? ⟨b, 0, none⟩ = some (.slice A n c) ∧ W.cell? ⟨b, 1, none⟩ = some (.int .i64 at_) ∧
  W.cell? ⟨b + 1, 0, none⟩ = some (.slice none 0 0) ∧ W.cell? ⟨b + 1, 1, none⟩ = some (.int .i64 0) ∧ W.frozen? ⟨b + 1, 0, none⟩ = false ∧ W.frozen? ⟨b + 1, 1, none⟩ = false ∧
  W.cell? ⟨T, 0, none⟩ = some (.slice A n c) ∧ W.cell? ⟨T, 1, none⟩ = some (.int .i64 cur) ∧ W.frozen? ⟨T, 0, none⟩ = false ∧ W.frozen? ⟨T, 1, none⟩ = false
theorem Order.Held.below {b T : Nat} {A : Option Addr} {n c : Nat} {at_ cur : Int} {W w1 : World} (h : Order.Held b T A n c at_ cur W) (hb : Below W.heap.size W w1) (h1 : b + 1 < W.heap.size) (h2 : T < W.heap.size) : Order.Held b T A n c at_ cur w1 := by
  obtain ⟨k0, k1, k2, k3, f2, f3, k4, k5, f4, f5⟩ := h
  exact ⟨hold1 hb k0, hold1 hb k1, hold1 hb k2, hold1 hb k3, holdf hb h1 f2, holdf hb h1 f3, hold1 hb k4, hold1 hb k5, holdf hb h2 f4, holdf hb h2 f5⟩
theorem Order.Held.far {b T : Nat} {A : Option Addr} {n c : Nat} {at_ cur : Int} {W : World} (h : Order.Held b T A n c at_ cur W) {p : Addr} (h1 : p.block ≠ b) (h2 : p.block ≠ b + 1) (h3 : p.block ≠ T) (u : Value) : Order.Held b T A n c at_ cur (W.setCell p u) := by
  obtain ⟨k0, k1, k2, k3, f2, f3, k4, k5, f4, f5⟩ := h
  have far : ∀ (g o : Nat), p.block ≠ g → (W.setCell p u).cell? ⟨g, o, none⟩ = W.cell? ⟨g, o, none⟩ := fun g o hg => World.cell?_setCell_other W p ⟨g, o, none⟩ u (fun e => hg (by rw [e]))
  exact ⟨(far _ _ h1).trans k0, (far _ _ h1).trans k1, (far _ _ h2).trans k2, (far _ _ h2).trans k3, by simpa [go_sem] using f2, by simpa [go_sem] using f3, (far _ _ h3).trans k4, (far _ _ h3).trans k5, by simpa [go_sem] using f4, by simpa [go_sem] using f5⟩
theorem Order.Held.put {b T : Nat} {A : Option Addr} {n c : Nat} {at_ cur : Int} {W : World} (h : Order.Held b T A n c at_ cur W) (hT : b + 1 < T) (cur' : Int) : Order.Held b T A n c at_ cur' ((W.setCell ⟨T, 0, none⟩ (.slice A n c)).setCell ⟨T, 1, none⟩ (.int .i64 cur')) := by
  obtain ⟨k0, k1, k2, k3, f2, f3, k4, k5, f4, f5⟩ := h
  have far : ∀ (g o i : Nat) (V : World) (u : Value), T ≠ g → (V.setCell ⟨T, i, none⟩ u).cell? ⟨g, o, none⟩ = V.cell? ⟨g, o, none⟩ := fun g o i V u hg => World.cell?_setCell_other V _ ⟨g, o, none⟩ u (fun e => hg (by injection e))
  refine ⟨(far _ _ _ _ _ (by omega)).trans ((far _ _ _ _ _ (by omega)).trans k0), (far _ _ _ _ _ (by omega)).trans ((far _ _ _ _ _ (by omega)).trans k1), (far _ _ _ _ _ (by omega)).trans ((far _ _ _ _ _ (by omega)).trans k2), (far _ _ _ _ _ (by omega)).trans ((far _ _ _ _ _ (by omega)).trans k3), by simpa [go_sem] using f2, by simpa [go_sem] using f3, ?_, ?_, by simpa [go_sem] using f4, by simpa [go_sem] using f5⟩
  · rw [World.cell?_setCell_other _ _ _ _ (by simp)]; exact set_same k4 _
  · exact set_same2 _ (by simp) k5 _ _
def Order.In (A : Option Addr) (n c m T : Nat) (at_ : Int) (ws : List Int) (w : World) (i : Value) (W : World) : Prop :=
  ∃ j q : Nat, q + j + 1 = m ∧ i = .int .i64 q ∧ (0 < j → 0 ≤ at_ ∧ at_ + j ≤ n) ∧ Order.Held w.heap.size T A n c at_ (at_ + j) W ∧ w.heap.size + 1 + 1 < T ∧
    Own W (w.heap.size + 1 + 1) 3 1 (num .i64) (.slice (some ⟨w.heap.size + 1 + 1, 0, none⟩) m m) (ord ws at_.toNat m j) ∧ Below w.heap.size w W ∧ T < W.heap.size
def Order.Post (A : Option Addr) (n c m : Nat) (at_ : Int) (ws : List Int) (w : World) (e : Ending) (w' : World) : Prop :=
  Below w.heap.size w w' ∧ ((1 < m ∧ (at_ < 0 ∨ (n : Int) < at_ + m - 1) ∧ e = .returned (.tuple #[.slice none 0 0, Words.st A n c at_, .int .i64 50])) ∨
    ((1 < m → 0 ≤ at_ ∧ at_ + m - 1 ≤ n) ∧ ∃ v, e = .returned (.tuple #[v, Words.st A n c (at_ + (m - 1 : Nat)), .int .i64 0]) ∧ Own w' w.heap.size 3 1 (num .i64) v (ord ws at_.toNat m (m - 1))))

set_option maxRecDepth 100000 in
set_option maxHeartbeats 4000000 in
theorem order_pos (A : Option Addr) (n c m : Nat) (at_ : Int) (ws : List Int) (w : World) (hr : Rd w w.heap.size 1 A n (ws.map (Value.int .u32))) (hl : ws.length = n) (hw : ∀ x ∈ ws, (Lit.int .u32 x).wf = true) (hn : n ≤ 1000) (hm : m ≤ 300) (h0 : 0 < m) :
    Calls Try.prog 12 #[.int .i64 m, Words.st A n c at_] w (Order.Post A n c m at_ ws w) := by
  have hmk := fun (W : World) => run_make_row' (P := Try.prog) 26 3 (.int .i64 0) 8 Try.underlying26 Order.info rfl .i64 .i64 m (by omega) (by omega) W
  have Hl := hide hl
  have Hw := hide hw
  have Hr := hide hr
  have hown0 := fun (W : World) => Own.made (base := W.heap.size) (k := .i64) W 3 m (Nat.le_refl _) (by omega)
  rw [← fil_zero m] at hown0
  have Ho := hide hown0
  clear hl hw hr hown0
  have d1 : decide ((65536 : Int) < (m : Int)) = false := by simp; omega
  go_enter Try.func12, Try.ntmps12
  go_wp2_with fail
  clear hmk
  go_loopw [25] (fun i wr => ∃ k : Nat, k ≤ m ∧ i = .int .i64 k ∧ Own wr (w.heap.size + 1 + 1) 3 1 (num .i64) (.slice (some ⟨w.heap.size + 1 + 1, 0, none⟩) m m) (fil m k) ∧ Below w.heap.size w wr ∧ w.heap.size + 1 + 1 < wr.heap.size ∧
      wr.cell? ⟨w.heap.size, 0, none⟩ = some (.slice A n c) ∧ wr.cell? ⟨w.heap.size, 1, none⟩ = some (.int .i64 at_) ∧
      wr.cell? ⟨w.heap.size + 1, 0, none⟩ = some (.slice none 0 0) ∧ wr.cell? ⟨w.heap.size + 1, 1, none⟩ = some (.int .i64 0) ∧ wr.frozen? ⟨w.heap.size + 1, 0, none⟩ = false ∧ wr.frozen? ⟨w.heap.size + 1, 1, none⟩ = false) (fun i _ => m - (intOf i).toNat)
  case atStart => exact ⟨0, Nat.zero_le _, rfl, by simpa using Ho.out ((w.alloc (Words.box A n c at_)).alloc (Words.box none 0 0 0)), by go_grown, by simp, by simp [go_sem], by simp [go_sem], by simp [go_sem], by simp [go_sem], by simp [go_sem], by simp [go_sem]⟩
  case round =>
    clear Ho
    obtain ⟨k, hk, rfl, hown, hbel, hsz, k0, k1, k2, k3, f2, f3⟩ := hrel
    by_cases hlt : k < m
    · obtain ⟨y, hy, cy, fy⟩ := hown.int_at (fil_length _ _) (j := k) hlt
      have hst := hide (hown.store (fil_length _ _) k (k : Int))
      have hnx := hide (fil_next m k)
      have HB := hide hbel
      clear hy hown hbel
      go_wp2_with fail
      go_roundw
      case rel =>
        refine ⟨k + 1, by omega, by go_num, by rw [← hnx.out]; exact hst.out.1, HB.out.setCell (by simp; omega) _, by go_size, ?_⟩
        simp [go_sem, *]
      case measure => simp [intOf]; omega
    · obtain rfl : k = m := by omega
      rw [fil_end] at hown
      have HO := hide hown
      clear hown
      obtain ⟨W1, hW1⟩ : ∃ W1, W1 = wr := ⟨_, rfl⟩
      subst hW1
      go_wp2_with fail
      go_loopw [10] (fun i wr => Order.In A n c k W1.heap.size at_ ws w i wr) (fun i _ => (intOf i).toNat)
      case atStart =>
        have hB1 : Below W1.heap.size W1 (W1.alloc (Words.box A n c at_)) := by go_grown
        exact ⟨0, k - 1, by omega, congrArg _ (by omega), fun h => by omega, ⟨hold1 hB1 k0, hold1 hB1 k1, hold1 hB1 k2, hold1 hB1 k3, holdf hB1 (by simp; omega) f2, holdf hB1 (by simp; omega) f3, by simp [go_sem], by simp [go_sem], by simp [go_sem], by simp [go_sem]⟩, by omega, HO.out.alloc _, hbel.alloc (by omega) _, by simp⟩
      case round =>
        clear HO hbel hsz k0 k1 k2 k3 f2 f3
        obtain ⟨j, q, hjq, rfl, hat, hheld, hT, hown, hbel, hsz⟩ := hrel
        have HO := hide hown
        have HAT := hide hat
        have HH := hide hheld
        have hm1 : j + 1 ≤ 300 := by omega
        clear hown hat
        by_cases hq : 0 < q
        · by_cases hd : at_ + j < 0 ∨ (n : Int) ≤ at_ + j
          · have HD := hide hd
            clear hd
            have hy0 : (((q : Int) + 1) == 0) = false := by rw [beq_eq_false_iff_ne]; omega
            obtain ⟨k0, k1, k2, k3, f2, f3, k4, k5, f4, f5⟩ := hheld
            go_wp2_with fail
            clear k0 k1 k2 k3 f2 f3 k4 k5 f4 f5
            refine (words_below_dry A n c _ _ (by omega) hy0 _ HD.out).mono ?_; rintro e w1 ⟨rfl, hb1⟩
            have hH1 := hide (HH.out.below hb1 (by omega) hsz)
            have hB1 := hbel.trans (hb1.mono (by omega))
            have hz1 := hb1.size
            clear hb1
            go_wp2_with fail
            refine letter (w := w) (fun W => Order.Held w.heap.size W1.heap.size A n c at_ (at_ + j) W) (hH1.out.below (by go_grown) (by omega) (by omega)) (hB1.alloc (by omega) _) (by simp; omega) ?_
            clear hH1 hB1 hz1
            rintro W ⟨k0, k1, k2, k3, f2, f3, -, -, -, -⟩ hB hz
            have s2 := set_same k2
            have s3 := set_same2 ⟨w.heap.size + 1, 0, none⟩ (by simp) k3
            go_region
            all_goals
              go_wp2_with fail
              refine bodyPost_ret (v := .tuple #[.slice none 0 0, Words.st A n c at_, .int .i64 50]) (by simp [results, Try.results12, go_sem, s2, s3]) rfl ⟨by go_grown, .inl ⟨by omega, ?_, rfl⟩⟩
              have := HAT.out
              have := HD.out
              omega
          · have hp : 0 ≤ at_ := by
              rcases Nat.eq_zero_or_pos j with h | h
              · subst h; omega
              · exact (HAT.out h).1
            obtain ⟨p, rfl⟩ := Int.eq_ofNat_of_zero_le hp
            obtain ⟨r, hr⟩ : ∃ r : Nat, r = p + j := ⟨_, rfl⟩
            have hrn : r < n := by omega
            have hri : (p : Int) + (j : Int) = (r : Int) := by omega
            obtain ⟨b, off, x, rfl, hb, hg, c0⟩ := (Hr.out.below hbel).int_at Hl.out hrn
            obtain ⟨x0, x1⟩ := bounds_u32 (Hw.out x (List.mem_of_getElem? hg))
            obtain ⟨n0, n1⟩ := num_range x0 x1 (show 0 < (q : Int) + 1 by omega)
            have hy0 : (((q : Int) + 1) == 0) = false := by rw [beq_eq_false_iff_ne]; omega
            obtain ⟨d, hdd⟩ := Int.eq_ofNat_of_zero_le n0
            have hdn : d < k := by omega
            have hpl := hide (show pl ws (p + j) (k - j) = d by
              unfold pl
              rw [← hr, List.getD_eq_getElem?_getD, hg, Option.getD_some, show ((k - j : Nat) : Int) = (q : Int) + 1 by omega, hdd]
              rfl)
            have hC := fun (W : World) (h : W.cell? ⟨b, off + r, none⟩ = some (.int .u32 x)) => words_below b off n c r x (q + 1) (by omega) hy0 x0 x1 (by omega) (by omega) W hrn h
            simp only [hdd] at hC
            have HC := hide hC
            obtain ⟨X, hX, cX, fX⟩ := HO.out.int_at (ord_length _ _ _ _) (j := q) (by omega)
            obtain ⟨Y, hY, cY, fY⟩ := HO.out.int_at (ord_length _ _ _ _) (j := d) (by omega)
            have HX := hide hX
            have HY := hide hY
            rw [hri] at hheld HH
            have HR := hide hr
            have HI := hide hri
            have C0 := hide c0
            clear hC hdd n0 n1 hg hX hY hr hri hd hp c0 cX fX cY fY
            obtain ⟨k0, k1, k2, k3, f2, f3, k4, k5, f4, f5⟩ := hheld
            go_wp2_with fail
            clear k0 k1 k2 k3 f2 f3 k4 k5 f4 f5
            refine (HC.out _ C0.out).mono ?_; rintro e w1 ⟨rfl, hb1⟩
            have hH1 := hide (HH.out.below hb1 (by omega) hsz)
            have hO1 := hide (HO.out.below hb1)
            have hB1 := hbel.trans (hb1.mono (by omega))
            have hz1 := hb1.size
            obtain ⟨-, -, -, -, -, -, k4, k5, f4, f5⟩ := hH1.out
            have hz2 := sizes (show W1.heap.size < w1.heap.size by omega)
            clear hb1
            go_wp2_with fail
            clear k4 k5 f4 f5
            refine letter (w := w) (fun W => Order.Held w.heap.size W1.heap.size (some ⟨b, off, none⟩) n c (p : Int) ((r : Int) + 1) W ∧ Own W (w.heap.size + 1 + 1) 3 1 (num .i64) (.slice (some ⟨w.heap.size + 1 + 1, 0, none⟩) k k) (ord ws p k j) ∧ W1.heap.size < W.heap.size)
              ⟨(hH1.out.put (by omega) _).below (by go_grown) (by simp; omega) (by simp; omega), ((hO1.out.setFar (by simp [Value.ownBlock]; omega) _).setFar (by simp [Value.ownBlock]; omega) _).alloc _, by simp; omega⟩ (((hB1.setCell (by simp; omega) _).setCell (by simp; omega) _).alloc (by simp; omega) _) (by simp; omega) ?_
            clear hH1 hO1 hB1 hz1 hz2
            rintro W ⟨hH, hO, hS⟩ hB hz
            obtain ⟨X', hX', cX, fX⟩ := hO.int_at (ord_length _ _ _ _) (j := q) (by omega)
            obtain ⟨Y', hY', cY, fY⟩ := hO.int_at (ord_length _ _ _ _) (j := d) (by omega)
            obtain ⟨V', hV'⟩ := cell?_setCell_some (w := W) (p := ⟨w.heap.size + 1 + 1, q, none⟩) (x := .int .i64 Y') (q := ⟨w.heap.size + 1 + 1, d, none⟩) (v := .int .i64 Y') cY
            have i0 : (0 : Int) ≤ (q : Int) := by omega
            have i1 : (q : Int) < (k : Int) := by omega
            have i2 : (0 : Int) ≤ (d : Int) := by omega
            have i3 : (d : Int) < (k : Int) := by omega
            have hfin := hide (((hO.store (ord_length _ _ _ _) q Y').1.store (by rw [List.length_set]; exact ord_length _ _ _ _) d X').1)
            have hHf := hide ((hH.far (p := ⟨w.heap.size + 1 + 1, q, none⟩) (by simp; omega) (by simp) (by simp; omega) (.int .i64 Y')).far (p := ⟨w.heap.size + 1 + 1, d, none⟩) (by simp; omega) (by simp) (by simp; omega) (.int .i64 X'))
            have hsw := hide (sw_get hX' hY')
            clear hX' hY' hO hH
            go_region
            all_goals
              go_wp2_with fail
              go_roundw
              case rel => exact ⟨j + 1, q - 1, by omega, congrArg _ (by omega), fun _ => ⟨by omega, by have := HI.out; omega⟩, by rw [show ((p : Int) + ((j + 1 : Nat) : Int)) = (r : Int) + 1 by have := HI.out; omega]; exact hHf.out, hT, by
                  rw [show ord ws (p : Int).toNat k (j + 1) = (((ord ws p k j).set q Y').set d X') by
                    rw [hsw.out, show (p : Int).toNat = p from rfl]
                    simp only [ord]
                    rw [hpl.out, show k - 1 - j = q by omega]]
                  exact hfin.out, by go_grown, by simp; omega⟩
              case measure => simp [intOf]; omega
        · obtain rfl : q = 0 := by omega
          obtain ⟨k0, k1, k2, k3, f2, f3, k4, k5, f4, f5⟩ := hheld
          have s2 := set_same k2
          have s3 := set_same2 ⟨w.heap.size + 1, 0, none⟩ (by simp) k3
          have hjk : k - 1 = j := by omega
          have HJ := hide hjk
          clear hjk
          go_wp2_with fail
          go_region
          all_goals
            go_wp2_with fail
            refine bodyPost_ret (v := .tuple #[.slice (some ⟨w.heap.size + 1 + 1, 0, none⟩) k k, Words.st A n c (at_ + j), .int .i64 0]) (by simp [results, Try.results12, go_sem, s2, s3]) rfl ⟨by go_grown, .inr ⟨fun h => ?_, .slice (some ⟨w.heap.size + 1 + 1, 0, none⟩) k k, ?_, ?_⟩⟩
            · have := HAT.out; omega
            · rw [HJ.out]
            · rw [HJ.out]; exact Own.small ((HO.out.setFar (by simp [Value.ownBlock]) _).setFar (by simp [Value.ownBlock]) _) (by omega)

set_option maxRecDepth 100000 in
set_option maxHeartbeats 4000000 in
theorem order_zero (A : Option Addr) (n c : Nat) (at_ : Int) (ws : List Int) (w : World) :
    Calls Try.prog 12 #[.int .i64 0, Words.st A n c at_] w (Order.Post A n c 0 at_ ws w) := by
  have hmk := fun (W : World) => run_make_row' (P := Try.prog) 26 3 (.int .i64 0) 8 Try.underlying26 Order.info rfl .i64 .i64 0 (by omega) (by omega) W
  simp only [Int.ofNat_zero, show ((0 : Nat) : Int) = 0 from rfl] at hmk
  have hown0 := fun (W : World) => Own.made (base := W.heap.size) (k := .i64) W 3 0 (Nat.le_refl _) (by omega)
  have Ho := hide hown0
  clear hown0
  go_enter Try.func12, Try.ntmps12
  go_wp2_with fail
  refine wp_loop_rounds 1 ?_; rw [rounds_succ]
  go_wp2_with fail
  refine wp_loop_rounds 1 ?_; rw [rounds_succ]
  go_wp2_with fail
  go_region
  all_goals
    go_wp2_with fail
    refine bodyPost_ret (v := .tuple #[.slice (some ⟨w.heap.size + 1 + 1, 0, none⟩) 0 0, Words.st A n c at_, .int .i64 0]) (by simp [results, Try.results12, go_sem]) rfl ⟨by go_grown, .inr ⟨fun h => by omega, .slice (some ⟨w.heap.size + 1 + 1, 0, none⟩) 0 0, ?_, ?_⟩⟩
    · simp
    · have := (((Ho.out ((w.alloc (Words.box A n c at_)).alloc (Words.box A n c at_))).alloc (Words.box A n c at_)).drew).small (B := w.heap.size) (by simp; omega)
      simp at this
      exact this
theorem order_any (A : Option Addr) (n c m : Nat) (at_ : Int) (ws : List Int) (w : World) (hr : Rd w w.heap.size 1 A n (ws.map (Value.int .u32))) (hl : ws.length = n) (hw : ∀ x ∈ ws, (Lit.int .u32 x).wf = true) (hn : n ≤ 1000) (hm : m ≤ 300) :
    Calls Try.prog 12 #[.int .i64 m, Words.st A n c at_] w (Order.Post A n c m at_ ws w) := by
  rcases Nat.eq_zero_or_pos m with h | h
  · subst h; exact order_zero A n c at_ ws w
  · exact order_pos A n c m at_ ws w hr hl hw hn hm h
end Go.Proofs.Ytalecppofemcnaa
