/-
  The walk of park.table.
-/
import Derived.Test.YtalecppofemcnaaParkRows
import Derived.Test.YtalecppofemcnaaPark
import Derived.BigRegion
namespace Go.Proofs.Ytalecppofemcnaa
open Go.RowKit HB ParkP
set_option linter.unusedVariables false
set_option linter.unusedSimpArgs false
namespace ParkP
theorem tm_range {l : List Int} (h : okP l = true) {b : Nat → Int} {X : Int} (hb : ∀ v, -1 ≤ b v ∧ b v ≤ X) (hX : 0 ≤ X) {n : Nat} (hn : n ≤ 128) : ∀ m, m ≤ n → -1 ≤ (tm l b n m).1 ∧ (tm l b n m).1 ≤ X + 17179869184 ∧ (tm l b n m).2 ≤ n
  | 0, _ => by simp [tm]; omega
  | m + 1, hm => by
    have ih := tm_range h hb hX hn m (by omega)
    have h1 := hb (n - (m + 1))
    obtain ⟨_, _, o1, o2, o3⟩ := og_range h (n - (m + 1)) n hn (by omega) (n - (n - (m + 1))) (by omega)
    have h3 : 0 < n - (n - (m + 1)) := by omega
    have o4 := (o3 h3).1
    simp only [tm]
    unfold one
    split
    · exact ih
    · split
      · simp only []; omega
      · exact ih
theorem tc_range {l : List Int} (h : okP l = true) : ∀ c n, n ≤ 128 → -1 ≤ tc l c n ∧ tc l c n ≤ c * 17179869184
  | 0, n, _ => by simp only [tc]; split <;> omega
  | c + 1, n, hn => by
    by_cases h0 : n = 0
    · subst h0; simp [tc]; omega
    · have e : tc l (c + 1) n = (tm l (tc l c) n n).1 := by simp only [tc, if_neg h0]
      rw [e]
      have ih := tc_range h c
      have := tm_range h (b := fun v => if v ≤ 128 then tc l c v else -1) (X := c * 17179869184) (fun v => by
        by_cases hv : v ≤ 128
        · simp only [hv, if_true]; exact ih v hv
        · simp only [hv, if_false]; omega) (by omega) hn n (Nat.le_refl _)
      have he : ∀ m, m ≤ n → tm l (fun v => if v ≤ 128 then tc l c v else -1) n m = tm l (tc l c) n m := by
        intro m
        induction m with
        | zero => intro _; rfl
        | succ m ihm =>
          intro hm
          simp only [tm]
          rw [ihm (by omega), if_pos (show n - (m + 1) ≤ 128 by omega)]
      rw [he n (Nat.le_refl _)] at this
      omega
end ParkP
theorem letter3 {Q : World → Prop} {w W : World} (S : World → Prop) (hS : S W) (hb : Below w.heap.size w W) (h : ∀ W' : World, S W' → Below w.heap.size w W' → Q W') : Q W := h W hS hb
theorem TB.add {l : List Int} {W : World} {B H0 gc gl K n C : Nat} {rc rl : Nat → Nat} (h : TB l W B H0 gc gl K n C C rc rl) (hC : C < K + 1) (R R' : Nat) (o1 o2 : Obj) :
    TB l ((((W.setCell ⟨gc, C, none⟩ (hd n R)).setCell ⟨gl, C, none⟩ (hd n R')).alloc o1).alloc o2).drew B H0 gc gl K n (C + 1) C (fun u => if u = C then R else rc u) (fun u => if u = C then R' else rl u) := by
  obtain ⟨⟨h1, h2⟩, h3, h4, h5, h6⟩ := h
  refine ⟨⟨((((h1.store hC (hd n R)).far h3 _).alloc _).alloc _).congr (fun v _ => ?_), ((((h2.far (p := ⟨gc, C, none⟩) (Ne.symm h3) _).store hC (hd n R')).alloc _).alloc _).congr (fun v _ => ?_)⟩, h3, h4, h5, fun c hc => ?_⟩
  · by_cases hv : v = C
    · subst hv; simp
    · have h8 : (v < C + 1) = (v < C) := by apply propext; omega
      simp only [if_neg hv, h8]
  · by_cases hv : v = C
    · subst hv; simp
    · have h8 : (v < C + 1) = (v < C) := by apply propext; omega
      simp only [if_neg hv, h8]
  · obtain ⟨⟨a1, a2⟩, b1, b2⟩ := h6 c hc
    have hne : ¬ c = C := by omega
    simp only [if_neg hne]
    exact ⟨⟨a1, (((a2.far (p := ⟨gc, C, none⟩) (by simp only []; omega) _).far (p := ⟨gl, C, none⟩) (by simp only []; omega) _).alloc _).alloc _⟩, ⟨b1, (((b2.far (p := ⟨gc, C, none⟩) (by simp only []; omega) _).far (p := ⟨gl, C, none⟩) (by simp only []; omega) _).alloc _).alloc _⟩⟩
theorem rows_new (W : World) (B n : Nat) (hB : B ≤ W.heap.size) (hn : n ≤ 1000) (p1 p2 : Addr) (v1 v2 : Value) :
    Zone.Row ((((W.setCell p1 v1).setCell p2 v2).alloc (.cells (madeCells #[.int .i64 0] (n + 1)) 3)).alloc (.cells (madeCells #[.int .i64 0] (n + 1)) 3)).drew B W.heap.size n (fun _ => 0) ∧
    Zone.Row ((((W.setCell p1 v1).setCell p2 v2).alloc (.cells (madeCells #[.int .i64 0] (n + 1)) 3)).alloc (.cells (madeCells #[.int .i64 0] (n + 1)) 3)).drew B (W.heap.size + 1) n (fun _ => 0) := by
  have a := Zone.Row.new ((W.setCell p1 v1).setCell p2 v2) B n (by simpa using hB) hn
  have b := Zone.Row.new (((W.setCell p1 v1).setCell p2 v2).alloc (.cells (madeCells #[.int .i64 0] (n + 1)) 3)) B n (by simp; omega) hn
  simp only [World.size_alloc, World.size_setCell] at a b
  exact ⟨a.alloc _, b⟩
/-- the new table is whole -/
theorem TB.full {l : List Int} {W : World} {B H0 gc gl K n C : Nat} {rc rl : Nat → Nat} (h : TB l W B H0 gc gl K n (C + 1) C rc rl) (h1 : H0 ≤ rc C) (h2 : H0 ≤ rl C) (h3 : Zone.Row W B (rc C) n (tc l C)) (h4 : Zone.Row W B (rl C) n (fun v => (tl l C v : Int))) : TB l W B H0 gc gl K n (C + 1) (C + 1) rc rl := by
  obtain ⟨a, b, c, d, e⟩ := h
  refine ⟨a, b, c, d, fun u hu => ?_⟩
  by_cases hv : u = C
  · subst hv; exact ⟨⟨h1, h3⟩, h2, h4⟩
  · exact e u (by omega)
theorem tc_zero (l : List Int) : ∀ c, tc l c 0 = 0
  | 0 => rfl
  | c + 1 => rfl
theorem tl_zero (l : List Int) : ∀ c, tl l c 0 = 0
  | 0 => rfl
  | c + 1 => rfl
def Table.Post (l : List Int) (n K : Nat) (w : World) (e : Ending) (w' : World) : Prop :=
  ∃ H0 gc gl rc rl, e = .returned (.tuple #[.slice (some ⟨gc, 0, none⟩) (K + 1) (K + 1), .slice (some ⟨gl, 0, none⟩) (K + 1) (K + 1)]) ∧ TB l w' w.heap.size H0 gc gl K n (K + 1) (K + 1) rc rl ∧ Below w.heap.size w w'
theorem drew_row {w : World} {B g n : Nat} {f : Nat → Int} (h : Zone.Row w B g n f) : Zone.Row w.drew B g n f := h
theorem below_drew2 {B : Nat} {a w : World} (h : Below B a w) : Below B a w.drew := ⟨h.os, h.tape, h.output, h.size, h.block⟩
set_option maxRecDepth 100000 in
set_option maxHeartbeats 16000000 in
theorem park_table (A : Option Addr) (n c B K : Nat) (l : List Int) (w : World) (hr : Rd w B 1 A n (l.map (Value.int .i64))) (hB : B ≤ w.heap.size) (hl : l.length = n) (hok : okP l = true) (hK : K ≤ n) :
    Calls Try.prog 48 #[.slice A n c, .int .i64 K] w (Table.Post l n K w) := by
  have hn := (okP_yes hok).2.1
  rw [hl] at hn
  have hmk := fun (W : World) => run_make_row' (P := Try.prog) 73 26 (.slice none 0 0) 24 Try.underlying73 Park.info2 rfl .i64 .i64 (K + 1) (by omega) (by omega) W
  simp only [show ((K + 1 : Nat) : Int) = (K : Int) + 1 from by omega] at hmk
  have hmk2 := fun (W : World) => run_make_row' (P := Try.prog) 26 3 (.int .i64 0) 8 Try.underlying26 Zone.iinfo rfl .i64 .i64 (n + 1) (by omega) (by omega) W
  simp only [show ((n + 1 : Nat) : Int) = (n : Int) + 1 from by omega] at hmk2
  have HMK2 := hide hmk2
  have Hl := hide hl
  have Hok := hide hok
  have HR := hide hr
  have e1 : IntKind.i64.wrap ((K : Int) + 1) = (K : Int) + 1 := IntWalk.i64_in _ (by omega)
  clear hl hok hr hmk2
  go_enter Try.func48, Try.ntmps48
  go_wp2_with fail
  go_region
  · clear hmk e1
    go_wp2_with fail
    have hT0 : TB l ((w.alloc (.cells (madeCells #[.slice none 0 0] (K + 1)) 26)).alloc (.cells (madeCells #[.slice none 0 0] (K + 1)) 26)) w.heap.size (w.heap.size + 2) w.heap.size (w.heap.size + 1) K n 0 0 (fun _ => 0) (fun _ => 0) := by
      have a1 := (VRow.new w w.heap.size (K + 1) (Nat.le_refl _) (by omega)).alloc (.cells (madeCells #[.slice none 0 0] (K + 1)) 26)
      have a2 := VRow.new (w.alloc (.cells (madeCells #[.slice none 0 0] (K + 1)) 26)) w.heap.size (K + 1) (by simp) (by omega)
      rw [World.size_alloc] at a2
      exact ⟨⟨a1.congr (fun v _ => by rw [if_neg (by omega)]), a2.congr (fun v _ => by rw [if_neg (by omega)])⟩, by omega, by omega, by omega, fun c hc => by omega⟩
    have HT0 := hide hT0
    clear hT0
    go_loopw [22] (fun i wr => ∃ (C : Nat) (rc rl : Nat → Nat), C ≤ K + 1 ∧ i = .int .i64 C ∧ TB l wr w.heap.size (w.heap.size + 2) w.heap.size (w.heap.size + 1) K n C C rc rl ∧ Below w.heap.size w wr ∧ w.heap.size + 2 ≤ wr.heap.size) (fun i _ => K + 1 - (intOf i).toNat)
    case atStart => exact ⟨0, _, _, by omega, rfl, HT0.out, by go_grown, by simp⟩
    case round =>
      clear HT0
      obtain ⟨C, rc, rl, hC, rfl, htb, hbel, hz⟩ := hrel
      have HTB := hide htb
      by_cases hlt : C < K + 1
      · obtain ⟨⟨v1, v2⟩, hne, hg1, hg2, -⟩ := htb
        obtain ⟨cc, fc⟩ := v1.cell hlt
        obtain ⟨cl, fl⟩ := v2.cell hlt
        rw [if_neg (Nat.lt_irrefl _)] at cc cl
        have V1 := hide v1
        have V2 := hide v2
        have HLT := hide HTB.out.lt
        obtain ⟨H1, hH1⟩ : ∃ H1, H1 = wr.heap.size := ⟨_, rfl⟩
        have q0 : (0 : Int) ≤ (C : Int) := by omega
        have q1 : (C : Int) < (K : Int) + 1 := by omega
        have q2 : IntKind.i64.wrap ((n : Int) + 1) = (n : Int) + 1 := IntWalk.i64_in _ (by omega)
        have hmk2 := HMK2.out
        have N1 := sizes (show w.heap.size < wr.heap.size by omega)
        have N2 := sizes (show w.heap.size + 1 < wr.heap.size by omega)
        clear v1 v2
        go_wp2_with fail
        go_region
        · clear hmk2 q0 q1 q2 cc cl fc fl
          go_wp2_with fail
          have HNEW := hide (rows_new wr w.heap.size n (by omega) (by omega) ⟨w.heap.size, C, none⟩ ⟨(w.heap.size + 1), C, none⟩ (hd n (wr.heap.size)) (hd n (wr.heap.size + 1)))
          have hHE := hide hH1
          refine letter3 (w := w) (fun W => TB l W w.heap.size (w.heap.size + 2) w.heap.size (w.heap.size + 1) K n (C + 1) C (fun u => if u = C then (wr.heap.size) else rc u) (fun u => if u = C then (wr.heap.size + 1) else rl u) ∧ Zone.Row W w.heap.size ((wr.heap.size)) n (fun _ => 0) ∧ Zone.Row W w.heap.size ((wr.heap.size + 1)) n (fun _ => 0)) ⟨HTB.out.add hlt ((wr.heap.size)) ((wr.heap.size + 1)) _ _, HNEW.out.1, HNEW.out.2⟩
            (below_drew2 ((((hbel.setCell (by simp) _).setCell (by simp) _).alloc (by simp; omega) _).alloc (by simp; omega) _)) ?_
          clear V1 V2 N1 N2 HNEW HTB hbel
          have HH1 := hide (show H1 ≤ (wr.heap.size) ∧ H1 ≤ (wr.heap.size + 1) ∧ w.heap.size + 2 ≤ H1 ∧ (wr.heap.size) ≠ (wr.heap.size + 1) by omega)
          rw [← hH1] at HLT
          generalize hRB : wr.heap.size + 1 = R' at *
          generalize hRA : wr.heap.size = R at *
          rintro W ⟨htb, hrow, hrow'⟩ hbW
          have HTB := hide htb
          have HROW := hide hrow
          have HROW' := hide hrow'
          have HLT2 := hide (fun c (hc : c < C) => (show (if c = C then R else rc c) < H1 ∧ (if c = C then R' else rl c) < H1 by rw [if_neg (by omega), if_neg (by omega)]; exact HLT.out c hc))
          clear htb hrow hrow' hRA hRB hH1
          go_loopw [9] (fun i wr => ∃ m : Nat, 1 ≤ m ∧ m ≤ n + 1 ∧ i = .int .i64 m ∧ Zone.Row wr w.heap.size R n (fun v => if v < m then tc l C v else 0) ∧ Zone.Row wr w.heap.size R' n (fun v => if v < m then (tl l C v : Int) else 0) ∧ Below H1 W wr) (fun i _ => n + 1 - (intOf i).toNat)
          case atStart => exact ⟨1, Nat.le_refl _, by omega, rfl, HROW.out.congr (fun v _ => by
              by_cases h : v < 1
              · obtain rfl : v = 0 := by omega
                simp [tc_zero]
              · rw [if_neg h]), HROW'.out.congr (fun v _ => by
              by_cases h : v < 1
              · obtain rfl : v = 0 := by omega
                simp [tl_zero]
              · rw [if_neg h]), Below.refl _ _⟩
          case round =>
            clear HROW HROW'
            obtain ⟨m, hm1, hm, rfl, hrow, hrow', hbm⟩ := hrel
            obtain ⟨W2, hW2⟩ : ∃ W2, W2 = wr := ⟨_, rfl⟩
            subst hW2
            have HROW := hide hrow
            have HROW' := hide hrow'
            have HT2 := hide (HTB.out.below hbm HH1.out.2.2.1 HLT2.out)
            by_cases hlt2 : m ≤ n
            · obtain ⟨cc, fc⟩ := HT2.out.1.1.cell hlt
              simp only [Nat.lt_succ_self, if_true] at cc
              obtain ⟨cR, fR⟩ := HROW.out.cell hlt2
              have hst := hide ((HROW.out.store m (-1)).congr (f' := fun v => if v < m then tc l C v else if v = m then (tm l (tc l (C - 1)) m 0).1 else 0) (fun v _ => by
                by_cases h : v = m
                · subst h; simp [tm]
                · simp only [if_neg h]))
              have hst' := hide ((HROW'.out.far (p := ⟨R, m, none⟩) (Ne.symm HH1.out.2.2.2) (.int .i64 (-1))).congr (f' := fun v => if v < m then (tl l C v : Int) else if v = m then ((tm l (tc l (C - 1)) m 0).2 : Int) else 0) (fun v _ => by
                by_cases h : v < m
                · simp only [if_pos h]
                · simp only [if_neg h]
                  by_cases h2 : v = m
                  · simp [h2, tm]
                  · simp only [if_neg h2]))
              have hbst := hide (hbm.setCell (show H1 ≤ (⟨R, m, none⟩ : Addr).block from HH1.out.1) (.int .i64 (-1)))
              have m1 : (1 : Int) ≤ (m : Int) := by omega
              clear hrow hrow'
              go_wp2_with fail
              go_loopw [10] (fun i wr => ∃ j : Nat, i = .int .i64 ((j : Int) + 1) ∧ (C = 0 → j = 0) ∧ j ≤ m ∧ Zone.Row wr w.heap.size R n (fun v => if v < m then tc l C v else if v = m then (tm l (tc l (C - 1)) m j).1 else 0) ∧ Zone.Row wr w.heap.size R' n (fun v => if v < m then (tl l C v : Int) else if v = m then ((tm l (tc l (C - 1)) m j).2 : Int) else 0) ∧ Below H1 W wr) (fun i _ => m + 2 - (intOf i).toNat)
              case atStart => exact ⟨0, rfl, fun _ => rfl, by omega, hst.out, hst'.out, hbst.out⟩
              case round =>
                clear HROW HROW' HT2 hst hst' hbst hbm cc fc cR fR
                obtain ⟨j, rfl, hj0, hjm, hrow, hrow', hbm⟩ := hrel
                obtain ⟨W3, hW3⟩ : ∃ W3, W3 = wr := ⟨_, rfl⟩
                subst hW3
                have HROW := hide hrow
                have HROW' := hide hrow'
                have HT3 := hide (HTB.out.below hbm HH1.out.2.2.1 HLT2.out)
                clear hrow hrow'
                rcases Nat.eq_zero_or_pos C with hc0 | hc0
                · have g2 : decide ((0 : Int) < (C : Int)) = false := by simp; omega
                  have g3 : decide (0 < C) = false := by simp; omega
                  have HC0 := hide hc0
                  have HJ := hide (hj0 hc0)
                  have hr1 := hide (HROW.out.congr (f' := fun v => if v < m + 1 then tc l C v else 0) (fun v _ => by
                    by_cases h : v < m
                    · rw [if_pos h, if_pos (by omega)]
                    · rw [if_neg h]
                      by_cases h2 : v = m
                      · subst h2
                        rw [if_pos rfl, if_pos (by omega), HJ.out, HC0.out]
                        simp only [tm, tc]; rw [if_neg (by omega)]
                      · rw [if_neg h2, if_neg (by omega)]))
                  have hr2 := hide (HROW'.out.congr (f' := fun v => if v < m + 1 then (tl l C v : Int) else 0) (fun v _ => by
                    by_cases h : v < m
                    · rw [if_pos h, if_pos (by omega)]
                    · rw [if_neg h]
                      by_cases h2 : v = m
                      · subst h2
                        rw [if_pos rfl, if_pos (by omega), HJ.out, HC0.out]
                        simp only [tm, tl]
                      · rw [if_neg h2, if_neg (by omega)]))
                  clear hc0 hj0
                  go_wp2_with fail
                  go_roundw
                  case rel => exact ⟨m + 1, by omega, by omega, by go_num, hr1.out, hr2.out, hbm⟩
                  case measure => simp [intOf]; omega
                · have g2 : decide ((0 : Int) < (C : Int)) = true := by simp; omega
                  have g3 : decide (0 < C) = true := by simp; omega
                  obtain ⟨C1, rfl⟩ : ∃ C1, C = C1 + 1 := ⟨C - 1, by omega⟩
                  rw [Nat.add_sub_cancel] at HROW HROW'
                  by_cases hj : j < m
                  · obtain ⟨u, hu⟩ : ∃ u, m = u + (j + 1) := ⟨m - (j + 1), by omega⟩
                    have hum : m - (j + 1) = u := by omega
                    have htm : tm l (tc l C1) m (j + 1) = if tc l C1 u < 0 then tm l (tc l C1) m j else if (tm l (tc l C1) m j).1 < 0 ∨ tc l C1 u + (one l u m).2 < (tm l (tc l C1) m j).1 then (tc l C1 u + (one l u m).2, j + 1) else tm l (tc l C1) m j := by simp only [tm, hum]
                    have HTM := hide htm
                    obtain ⟨r1, r2⟩ := tc_range Hok.out C1 u (by omega)
                    have r3 : tc l C1 u ≤ 2199023255552 := by omega
                    have e2 : (m : Int) - ((j : Int) + 1) = (u : Int) := by omega
                    have c1 : ((C1 + 1 : Nat) : Int) - 1 = (C1 : Int) := by omega
                    have hbw3 := hbW.trans (hbm.mono (show w.heap.size ≤ H1 by have := HH1.out; omega))
                    have hH3 : H1 ≤ W3.heap.size := by have := HROW.out.2.2; have := HH1.out; omega
                    have hrowc := (HT3.out.2.2.2.2 C1 (Nat.lt_succ_self _)).1.2
                    simp only [if_neg (show ¬ C1 = C1 + 1 by omega)] at hrowc
                    obtain ⟨cu, fu⟩ := hrowc.cell (show u ≤ n by omega)
                    obtain ⟨ch, fh⟩ := HT3.out.1.1.cell (show C1 < K + 1 by omega)
                    simp only [if_neg (show ¬ C1 = C1 + 1 by omega), if_pos (show C1 < C1 + 1 + 1 by omega)] at ch
                    have HU := hide hu
                    have hone := hide (park_one A n c B l u m W3 (HR.out.below (hbw3.mono hB)) (by have := hbw3.size; omega) Hl.out Hok.out (by omega) (by omega))
                    obtain ⟨_, _, o1, o2, o3⟩ := og_range Hok.out u m (by omega) (by omega) (m - u) (by omega)
                    have o4 := (o3 (by omega)).1
                    have o5 : (one l u m).2 = (og l u m (m - u)).2 := rfl
                    rw [← o5] at o2 o4
                    clear hrowc htm hu hum r2 o1 o3 o5
                    generalize tc l C1 u = rest at *
                    obtain ⟨P, hP⟩ : ∃ P, P = tm l (tc l C1) m j := ⟨_, rfl⟩
                    rw [← hP] at HTM
                    have HROWp := hide (show Zone.Row W3 w.heap.size R n (fun v => if v < m then tc l (C1 + 1) v else if v = m then P.1 else 0) by rw [hP]; exact HROW.out)
                    have HROWp' := hide (show Zone.Row W3 w.heap.size R' n (fun v => if v < m then (tl l (C1 + 1) v : Int) else if v = m then (P.2 : Int) else 0) by rw [hP]; exact HROW'.out)
                    clear hP HROW HROW'
                    by_cases hrest : rest < 0
                    · have hE := hide (show tm l (tc l C1) m (j + 1) = P by rw [HTM.out, if_pos (show rest < 0 by omega)])
                      clear HTM
                      go_wp2_with fail
                      go_roundw
                      case rel => first | exact ⟨j + 1, by go_num, fun h => (by cases h), by have := HU.out; omega, by rw [Nat.add_sub_cancel, hE.out]; exact HROWp.out, by rw [Nat.add_sub_cancel, hE.out]; exact HROWp'.out, hbm⟩ | ((repeat apply Exists.intro); exact ⟨⟨j + 1, by go_num, fun h => (by cases h), by have := HU.out; omega, by rw [Nat.add_sub_cancel, hE.out]; exact HROWp.out, by rw [Nat.add_sub_cancel, hE.out]; exact HROWp'.out, hbm⟩, rfl⟩)
                      case measure => simp [intOf]; omega
                    · have hrest2 : 0 ≤ rest := by omega
                      go_wp2_with fail
                      refine (hone.out).mono ?_; rintro e w4 ⟨rfl, hb4⟩
                      have HR4 := hide (HROWp.out.below hb4 HROWp.out.2.2)
                      have HR4' := hide (HROWp'.out.below hb4 HROWp'.out.2.2)
                      have hbm4 := hbm.trans (hb4.mono hH3)
                      have HT4 := hide (HTB.out.below hbm4 HH1.out.2.2.1 HLT2.out)
                      obtain ⟨cc, fc⟩ := HT4.out.1.1.cell hlt
                      obtain ⟨cl, fl⟩ := HT4.out.1.2.cell hlt
                      simp only [Nat.lt_succ_self, if_true] at cc cl
                      obtain ⟨cR, fR⟩ := HR4.out.cell hlt2
                      obtain ⟨cR', fR'⟩ := HR4'.out.cell hlt2
                      simp only [Nat.lt_irrefl, if_false, if_true] at cR cR'
                      have hne4 := HH1.out.2.2.2
                      clear hone hb4 cu fu ch fh HT4
                      generalize (one l u m).2 = x at *
                      generalize (one l u m).1 = y at *
                      obtain ⟨p1, p2⟩ := P
                      simp only at HTM HR4 HR4' cR cR'
                      rcases (show p1 < 0 ∨ (0 ≤ p1 ∧ rest + x < p1) ∨ (0 ≤ p1 ∧ p1 ≤ rest + x) by omega) with h1 | ⟨h1, h2⟩ | ⟨h1, h2⟩
                      · have d1 : decide (p1 < 0) = true := by simpa using h1
                        have hE := hide (show tm l (tc l C1) m (j + 1) = (rest + x, j + 1) by rw [HTM.out, if_neg (show ¬ rest < 0 by omega), if_pos (.inl h1)])
                        clear HTM HROWp HROWp'
                        go_wp2_with fail
                        have b0 : IntKind.i64.wrap (rest + x) = rest + x := IntWalk.i64_in _ (by omega)
                        have b1 : (0 : Int) ≤ (C1 : Int) + 1 := by omega
                        have b2 : (C1 : Int) + 1 < (K : Int) + 1 := by omega
                        have b3 : (0 : Int) ≤ (m : Int) := by omega
                        have b4 : (m : Int) < (n : Int) + 1 := by omega
                        have b5 : ((C1 : Int) + 1).toNat = C1 + 1 := by omega
                        have b6 : (0 : Int) ≤ ((C1 + 1 : Nat) : Int) := by omega
                        have b7 : ((C1 + 1 : Nat) : Int) < (K : Int) + 1 := by omega
                        have s3 := (World.cell?_setCell_other w4 ⟨R, m, none⟩ ⟨R', m, none⟩ (.int .i64 (rest + x)) (by simp [hne4])).trans cR'
                        have hs1 := hide (((HR4.out.store m (rest + x)).far (p := ⟨R', m, none⟩) hne4 (.int .i64 ((j : Int) + 1))).congr (f' := fun v => if v < m then tc l (C1 + 1) v else if v = m then rest + x else 0) (fun v _ => by
                          by_cases h : v = m
                          · subst h; simp
                          · simp only [if_neg h]))
                        have hs2 := hide (((HR4'.out.far (p := ⟨R, m, none⟩) (Ne.symm hne4) (.int .i64 (rest + x))).store m ((j : Int) + 1)).congr (f' := fun v => if v < m then (tl l (C1 + 1) v : Int) else if v = m then ((j + 1 : Nat) : Int) else 0) (fun v _ => by
                          by_cases h : v = m
                          · subst h; simp
                          · simp only [if_neg h]))
                        have hs3 := hide ((hbm4.setCell (show H1 ≤ (⟨R, m, none⟩ : Addr).block from HH1.out.1) (.int .i64 (rest + x))).setCell (show H1 ≤ (⟨R', m, none⟩ : Addr).block from HH1.out.2.1) (.int .i64 ((j : Int) + 1)))
                        clear HR4 HR4'
                        go_region
                        all_goals
                          clear b0 b1 b2 b3 b4 b5 b6 b7 s3
                          go_wp2_with fail
                          go_roundw
                          case rel => first | exact ⟨j + 1, by go_num, fun h => (by cases h), by have := HU.out; omega, by rw [Nat.add_sub_cancel, hE.out]; exact hs1.out, by rw [Nat.add_sub_cancel, hE.out]; exact hs2.out, below_drew2 hs3.out⟩ | ((repeat apply Exists.intro); exact ⟨⟨j + 1, by go_num, fun h => (by cases h), by have := HU.out; omega, by rw [Nat.add_sub_cancel, hE.out]; exact hs1.out, by rw [Nat.add_sub_cancel, hE.out]; exact hs2.out, below_drew2 hs3.out⟩, rfl⟩)
                          case measure => simp [intOf]; omega
                      · have d1 : decide (p1 < 0) = false := by simp; omega
                        have d2 : decide (rest + x < p1) = true := by simpa using h2
                        have hE := hide (show tm l (tc l C1) m (j + 1) = (rest + x, j + 1) by rw [HTM.out, if_neg (show ¬ rest < 0 by omega), if_pos (.inr h2)])
                        clear HTM HROWp HROWp'
                        go_wp2_with fail
                        have b0 : IntKind.i64.wrap (rest + x) = rest + x := IntWalk.i64_in _ (by omega)
                        have b1 : (0 : Int) ≤ (C1 : Int) + 1 := by omega
                        have b2 : (C1 : Int) + 1 < (K : Int) + 1 := by omega
                        have b3 : (0 : Int) ≤ (m : Int) := by omega
                        have b4 : (m : Int) < (n : Int) + 1 := by omega
                        have b5 : ((C1 : Int) + 1).toNat = C1 + 1 := by omega
                        have b6 : (0 : Int) ≤ ((C1 + 1 : Nat) : Int) := by omega
                        have b7 : ((C1 + 1 : Nat) : Int) < (K : Int) + 1 := by omega
                        have s3 := (World.cell?_setCell_other w4 ⟨R, m, none⟩ ⟨R', m, none⟩ (.int .i64 (rest + x)) (by simp [hne4])).trans cR'
                        have hs1 := hide (((HR4.out.store m (rest + x)).far (p := ⟨R', m, none⟩) hne4 (.int .i64 ((j : Int) + 1))).congr (f' := fun v => if v < m then tc l (C1 + 1) v else if v = m then rest + x else 0) (fun v _ => by
                          by_cases h : v = m
                          · subst h; simp
                          · simp only [if_neg h]))
                        have hs2 := hide (((HR4'.out.far (p := ⟨R, m, none⟩) (Ne.symm hne4) (.int .i64 (rest + x))).store m ((j : Int) + 1)).congr (f' := fun v => if v < m then (tl l (C1 + 1) v : Int) else if v = m then ((j + 1 : Nat) : Int) else 0) (fun v _ => by
                          by_cases h : v = m
                          · subst h; simp
                          · simp only [if_neg h]))
                        have hs3 := hide ((hbm4.setCell (show H1 ≤ (⟨R, m, none⟩ : Addr).block from HH1.out.1) (.int .i64 (rest + x))).setCell (show H1 ≤ (⟨R', m, none⟩ : Addr).block from HH1.out.2.1) (.int .i64 ((j : Int) + 1)))
                        clear HR4 HR4'
                        go_region
                        all_goals
                          clear b0 b1 b2 b3 b4 b5 b6 b7 s3
                          go_wp2_with fail
                          go_roundw
                          case rel => first | exact ⟨j + 1, by go_num, fun h => (by cases h), by have := HU.out; omega, by rw [Nat.add_sub_cancel, hE.out]; exact hs1.out, by rw [Nat.add_sub_cancel, hE.out]; exact hs2.out, below_drew2 hs3.out⟩ | ((repeat apply Exists.intro); exact ⟨⟨j + 1, by go_num, fun h => (by cases h), by have := HU.out; omega, by rw [Nat.add_sub_cancel, hE.out]; exact hs1.out, by rw [Nat.add_sub_cancel, hE.out]; exact hs2.out, below_drew2 hs3.out⟩, rfl⟩)
                          case measure => simp [intOf]; omega
                      · have d1 : decide (p1 < 0) = false := by simp; omega
                        have d2 : decide (rest + x < p1) = false := by simp; omega
                        have hE := hide (show tm l (tc l C1) m (j + 1) = (p1, p2) by rw [HTM.out, if_neg (show ¬ rest < 0 by omega), if_neg (by omega)])
                        clear HTM HROWp HROWp'
                        go_wp2_with fail
                        go_roundw
                        case rel => first | exact ⟨j + 1, by go_num, fun h => (by cases h), by have := HU.out; omega, by rw [Nat.add_sub_cancel, hE.out]; exact HR4.out, by rw [Nat.add_sub_cancel, hE.out]; exact HR4'.out, hbm4⟩ | ((repeat apply Exists.intro); exact ⟨⟨j + 1, by go_num, fun h => (by cases h), by have := HU.out; omega, by rw [Nat.add_sub_cancel, hE.out]; exact HR4.out, by rw [Nat.add_sub_cancel, hE.out]; exact HR4'.out, hbm4⟩, rfl⟩)
                        case measure => simp [intOf]; omega
                  · obtain rfl : j = m := by omega
                    have hr1 := hide (HROW.out.congr (f' := fun v => if v < j + 1 then tc l (C1 + 1) v else 0) (fun v _ => by
                      by_cases h : v < j
                      · rw [if_pos h, if_pos (by omega)]
                      · rw [if_neg h]
                        by_cases h2 : v = j
                        · subst h2
                          rw [if_pos rfl, if_pos (by omega)]
                          simp only [tc]; rw [if_neg (by omega)]
                        · rw [if_neg h2, if_neg (by omega)]))
                    have hr2 := hide (HROW'.out.congr (f' := fun v => if v < j + 1 then (tl l (C1 + 1) v : Int) else 0) (fun v _ => by
                      by_cases h : v < j
                      · rw [if_pos h, if_pos (by omega)]
                      · rw [if_neg h]
                        by_cases h2 : v = j
                        · subst h2
                          rw [if_pos rfl, if_pos (by omega)]
                          simp only [tl]; rw [if_neg (by omega)]
                        · rw [if_neg h2, if_neg (by omega)]))
                    go_wp2_with fail
                    go_roundw
                    case rel => exact ⟨j + 1, by omega, by omega, by go_num, hr1.out, hr2.out, hbm⟩
                    case measure => simp [intOf]; omega
            · obtain rfl : m = n + 1 := by omega
              have m1 : ((n + 1 : Nat) : Int) = (n : Int) + 1 := by omega
              have hfull := hide (HT2.out.full (by rw [if_pos rfl]; have := HH1.out; omega) (by rw [if_pos rfl]; have := HH1.out; omega) (by rw [if_pos rfl]; exact HROW.out.congr (fun v hv => by rw [if_pos (by omega)])) (by rw [if_pos rfl]; exact HROW'.out.congr (fun v hv => by rw [if_pos (by omega)])))
              have hbf := hide (hbW.trans (hbm.mono (show w.heap.size ≤ H1 by have := HH1.out; omega)))
              have hszf := hide (show w.heap.size + 2 ≤ W2.heap.size by have := hbm.size; have := HROW.out.2.2; have := HH1.out; omega)
              clear hrow hrow' HROW HROW' HT2
              go_wp2_with fail
              go_roundw
              case rel => exact ⟨C + 1, _, _, by omega, by go_num, hfull.out, hbf.out, hszf.out⟩
              case measure => simp [intOf]; omega
        · clear hmk2 q0 q1 q2 cc cl fc fl
          go_wp2_with fail
          have HNEW := hide (rows_new wr w.heap.size n (by omega) (by omega) ⟨w.heap.size, C, none⟩ ⟨(w.heap.size + 1), C, none⟩ (hd n (wr.heap.size + 1)) (hd n (wr.heap.size)))
          have hHE := hide hH1
          refine letter3 (w := w) (fun W => TB l W w.heap.size (w.heap.size + 2) w.heap.size (w.heap.size + 1) K n (C + 1) C (fun u => if u = C then (wr.heap.size + 1) else rc u) (fun u => if u = C then (wr.heap.size) else rl u) ∧ Zone.Row W w.heap.size ((wr.heap.size + 1)) n (fun _ => 0) ∧ Zone.Row W w.heap.size ((wr.heap.size)) n (fun _ => 0)) ⟨HTB.out.add hlt ((wr.heap.size + 1)) ((wr.heap.size)) _ _, HNEW.out.2, HNEW.out.1⟩
            (below_drew2 ((((hbel.setCell (by simp) _).setCell (by simp) _).alloc (by simp; omega) _).alloc (by simp; omega) _)) ?_
          clear V1 V2 N1 N2 HNEW HTB hbel
          have HH1 := hide (show H1 ≤ (wr.heap.size + 1) ∧ H1 ≤ (wr.heap.size) ∧ w.heap.size + 2 ≤ H1 ∧ (wr.heap.size + 1) ≠ (wr.heap.size) by omega)
          rw [← hH1] at HLT
          generalize hRB : wr.heap.size + 1 = R at *
          generalize hRA : wr.heap.size = R' at *
          rintro W ⟨htb, hrow, hrow'⟩ hbW
          have HTB := hide htb
          have HROW := hide hrow
          have HROW' := hide hrow'
          have HLT2 := hide (fun c (hc : c < C) => (show (if c = C then R else rc c) < H1 ∧ (if c = C then R' else rl c) < H1 by rw [if_neg (by omega), if_neg (by omega)]; exact HLT.out c hc))
          clear htb hrow hrow' hRA hRB hH1
          go_loopw [9] (fun i wr => ∃ m : Nat, 1 ≤ m ∧ m ≤ n + 1 ∧ i = .int .i64 m ∧ Zone.Row wr w.heap.size R n (fun v => if v < m then tc l C v else 0) ∧ Zone.Row wr w.heap.size R' n (fun v => if v < m then (tl l C v : Int) else 0) ∧ Below H1 W wr) (fun i _ => n + 1 - (intOf i).toNat)
          case atStart => exact ⟨1, Nat.le_refl _, by omega, rfl, HROW.out.congr (fun v _ => by
              by_cases h : v < 1
              · obtain rfl : v = 0 := by omega
                simp [tc_zero]
              · rw [if_neg h]), HROW'.out.congr (fun v _ => by
              by_cases h : v < 1
              · obtain rfl : v = 0 := by omega
                simp [tl_zero]
              · rw [if_neg h]), Below.refl _ _⟩
          case round =>
            clear HROW HROW'
            obtain ⟨m, hm1, hm, rfl, hrow, hrow', hbm⟩ := hrel
            obtain ⟨W2, hW2⟩ : ∃ W2, W2 = wr := ⟨_, rfl⟩
            subst hW2
            have HROW := hide hrow
            have HROW' := hide hrow'
            have HT2 := hide (HTB.out.below hbm HH1.out.2.2.1 HLT2.out)
            by_cases hlt2 : m ≤ n
            · obtain ⟨cc, fc⟩ := HT2.out.1.1.cell hlt
              simp only [Nat.lt_succ_self, if_true] at cc
              obtain ⟨cR, fR⟩ := HROW.out.cell hlt2
              have hst := hide ((HROW.out.store m (-1)).congr (f' := fun v => if v < m then tc l C v else if v = m then (tm l (tc l (C - 1)) m 0).1 else 0) (fun v _ => by
                by_cases h : v = m
                · subst h; simp [tm]
                · simp only [if_neg h]))
              have hst' := hide ((HROW'.out.far (p := ⟨R, m, none⟩) (Ne.symm HH1.out.2.2.2) (.int .i64 (-1))).congr (f' := fun v => if v < m then (tl l C v : Int) else if v = m then ((tm l (tc l (C - 1)) m 0).2 : Int) else 0) (fun v _ => by
                by_cases h : v < m
                · simp only [if_pos h]
                · simp only [if_neg h]
                  by_cases h2 : v = m
                  · simp [h2, tm]
                  · simp only [if_neg h2]))
              have hbst := hide (hbm.setCell (show H1 ≤ (⟨R, m, none⟩ : Addr).block from HH1.out.1) (.int .i64 (-1)))
              have m1 : (1 : Int) ≤ (m : Int) := by omega
              clear hrow hrow'
              go_wp2_with fail
              go_loopw [10] (fun i wr => ∃ j : Nat, i = .int .i64 ((j : Int) + 1) ∧ (C = 0 → j = 0) ∧ j ≤ m ∧ Zone.Row wr w.heap.size R n (fun v => if v < m then tc l C v else if v = m then (tm l (tc l (C - 1)) m j).1 else 0) ∧ Zone.Row wr w.heap.size R' n (fun v => if v < m then (tl l C v : Int) else if v = m then ((tm l (tc l (C - 1)) m j).2 : Int) else 0) ∧ Below H1 W wr) (fun i _ => m + 2 - (intOf i).toNat)
              case atStart => exact ⟨0, rfl, fun _ => rfl, by omega, hst.out, hst'.out, hbst.out⟩
              case round =>
                clear HROW HROW' HT2 hst hst' hbst hbm cc fc cR fR
                obtain ⟨j, rfl, hj0, hjm, hrow, hrow', hbm⟩ := hrel
                obtain ⟨W3, hW3⟩ : ∃ W3, W3 = wr := ⟨_, rfl⟩
                subst hW3
                have HROW := hide hrow
                have HROW' := hide hrow'
                have HT3 := hide (HTB.out.below hbm HH1.out.2.2.1 HLT2.out)
                clear hrow hrow'
                rcases Nat.eq_zero_or_pos C with hc0 | hc0
                · have g2 : decide ((0 : Int) < (C : Int)) = false := by simp; omega
                  have g3 : decide (0 < C) = false := by simp; omega
                  have HC0 := hide hc0
                  have HJ := hide (hj0 hc0)
                  have hr1 := hide (HROW.out.congr (f' := fun v => if v < m + 1 then tc l C v else 0) (fun v _ => by
                    by_cases h : v < m
                    · rw [if_pos h, if_pos (by omega)]
                    · rw [if_neg h]
                      by_cases h2 : v = m
                      · subst h2
                        rw [if_pos rfl, if_pos (by omega), HJ.out, HC0.out]
                        simp only [tm, tc]; rw [if_neg (by omega)]
                      · rw [if_neg h2, if_neg (by omega)]))
                  have hr2 := hide (HROW'.out.congr (f' := fun v => if v < m + 1 then (tl l C v : Int) else 0) (fun v _ => by
                    by_cases h : v < m
                    · rw [if_pos h, if_pos (by omega)]
                    · rw [if_neg h]
                      by_cases h2 : v = m
                      · subst h2
                        rw [if_pos rfl, if_pos (by omega), HJ.out, HC0.out]
                        simp only [tm, tl]
                      · rw [if_neg h2, if_neg (by omega)]))
                  clear hc0 hj0
                  go_wp2_with fail
                  go_roundw
                  case rel => exact ⟨m + 1, by omega, by omega, by go_num, hr1.out, hr2.out, hbm⟩
                  case measure => simp [intOf]; omega
                · have g2 : decide ((0 : Int) < (C : Int)) = true := by simp; omega
                  have g3 : decide (0 < C) = true := by simp; omega
                  obtain ⟨C1, rfl⟩ : ∃ C1, C = C1 + 1 := ⟨C - 1, by omega⟩
                  rw [Nat.add_sub_cancel] at HROW HROW'
                  by_cases hj : j < m
                  · obtain ⟨u, hu⟩ : ∃ u, m = u + (j + 1) := ⟨m - (j + 1), by omega⟩
                    have hum : m - (j + 1) = u := by omega
                    have htm : tm l (tc l C1) m (j + 1) = if tc l C1 u < 0 then tm l (tc l C1) m j else if (tm l (tc l C1) m j).1 < 0 ∨ tc l C1 u + (one l u m).2 < (tm l (tc l C1) m j).1 then (tc l C1 u + (one l u m).2, j + 1) else tm l (tc l C1) m j := by simp only [tm, hum]
                    have HTM := hide htm
                    obtain ⟨r1, r2⟩ := tc_range Hok.out C1 u (by omega)
                    have r3 : tc l C1 u ≤ 2199023255552 := by omega
                    have e2 : (m : Int) - ((j : Int) + 1) = (u : Int) := by omega
                    have c1 : ((C1 + 1 : Nat) : Int) - 1 = (C1 : Int) := by omega
                    have hbw3 := hbW.trans (hbm.mono (show w.heap.size ≤ H1 by have := HH1.out; omega))
                    have hH3 : H1 ≤ W3.heap.size := by have := HROW.out.2.2; have := HH1.out; omega
                    have hrowc := (HT3.out.2.2.2.2 C1 (Nat.lt_succ_self _)).1.2
                    simp only [if_neg (show ¬ C1 = C1 + 1 by omega)] at hrowc
                    obtain ⟨cu, fu⟩ := hrowc.cell (show u ≤ n by omega)
                    obtain ⟨ch, fh⟩ := HT3.out.1.1.cell (show C1 < K + 1 by omega)
                    simp only [if_neg (show ¬ C1 = C1 + 1 by omega), if_pos (show C1 < C1 + 1 + 1 by omega)] at ch
                    have HU := hide hu
                    have hone := hide (park_one A n c B l u m W3 (HR.out.below (hbw3.mono hB)) (by have := hbw3.size; omega) Hl.out Hok.out (by omega) (by omega))
                    obtain ⟨_, _, o1, o2, o3⟩ := og_range Hok.out u m (by omega) (by omega) (m - u) (by omega)
                    have o4 := (o3 (by omega)).1
                    have o5 : (one l u m).2 = (og l u m (m - u)).2 := rfl
                    rw [← o5] at o2 o4
                    clear hrowc htm hu hum r2 o1 o3 o5
                    generalize tc l C1 u = rest at *
                    obtain ⟨P, hP⟩ : ∃ P, P = tm l (tc l C1) m j := ⟨_, rfl⟩
                    rw [← hP] at HTM
                    have HROWp := hide (show Zone.Row W3 w.heap.size R n (fun v => if v < m then tc l (C1 + 1) v else if v = m then P.1 else 0) by rw [hP]; exact HROW.out)
                    have HROWp' := hide (show Zone.Row W3 w.heap.size R' n (fun v => if v < m then (tl l (C1 + 1) v : Int) else if v = m then (P.2 : Int) else 0) by rw [hP]; exact HROW'.out)
                    clear hP HROW HROW'
                    by_cases hrest : rest < 0
                    · have hE := hide (show tm l (tc l C1) m (j + 1) = P by rw [HTM.out, if_pos (show rest < 0 by omega)])
                      clear HTM
                      go_wp2_with fail
                      go_roundw
                      case rel => first | exact ⟨j + 1, by go_num, fun h => (by cases h), by have := HU.out; omega, by rw [Nat.add_sub_cancel, hE.out]; exact HROWp.out, by rw [Nat.add_sub_cancel, hE.out]; exact HROWp'.out, hbm⟩ | ((repeat apply Exists.intro); exact ⟨⟨j + 1, by go_num, fun h => (by cases h), by have := HU.out; omega, by rw [Nat.add_sub_cancel, hE.out]; exact HROWp.out, by rw [Nat.add_sub_cancel, hE.out]; exact HROWp'.out, hbm⟩, rfl⟩)
                      case measure => simp [intOf]; omega
                    · have hrest2 : 0 ≤ rest := by omega
                      go_wp2_with fail
                      refine (hone.out).mono ?_; rintro e w4 ⟨rfl, hb4⟩
                      have HR4 := hide (HROWp.out.below hb4 HROWp.out.2.2)
                      have HR4' := hide (HROWp'.out.below hb4 HROWp'.out.2.2)
                      have hbm4 := hbm.trans (hb4.mono hH3)
                      have HT4 := hide (HTB.out.below hbm4 HH1.out.2.2.1 HLT2.out)
                      obtain ⟨cc, fc⟩ := HT4.out.1.1.cell hlt
                      obtain ⟨cl, fl⟩ := HT4.out.1.2.cell hlt
                      simp only [Nat.lt_succ_self, if_true] at cc cl
                      obtain ⟨cR, fR⟩ := HR4.out.cell hlt2
                      obtain ⟨cR', fR'⟩ := HR4'.out.cell hlt2
                      simp only [Nat.lt_irrefl, if_false, if_true] at cR cR'
                      have hne4 := HH1.out.2.2.2
                      clear hone hb4 cu fu ch fh HT4
                      generalize (one l u m).2 = x at *
                      generalize (one l u m).1 = y at *
                      obtain ⟨p1, p2⟩ := P
                      simp only at HTM HR4 HR4' cR cR'
                      rcases (show p1 < 0 ∨ (0 ≤ p1 ∧ rest + x < p1) ∨ (0 ≤ p1 ∧ p1 ≤ rest + x) by omega) with h1 | ⟨h1, h2⟩ | ⟨h1, h2⟩
                      · have d1 : decide (p1 < 0) = true := by simpa using h1
                        have hE := hide (show tm l (tc l C1) m (j + 1) = (rest + x, j + 1) by rw [HTM.out, if_neg (show ¬ rest < 0 by omega), if_pos (.inl h1)])
                        clear HTM HROWp HROWp'
                        go_wp2_with fail
                        have b0 : IntKind.i64.wrap (rest + x) = rest + x := IntWalk.i64_in _ (by omega)
                        have b1 : (0 : Int) ≤ (C1 : Int) + 1 := by omega
                        have b2 : (C1 : Int) + 1 < (K : Int) + 1 := by omega
                        have b3 : (0 : Int) ≤ (m : Int) := by omega
                        have b4 : (m : Int) < (n : Int) + 1 := by omega
                        have b5 : ((C1 : Int) + 1).toNat = C1 + 1 := by omega
                        have b6 : (0 : Int) ≤ ((C1 + 1 : Nat) : Int) := by omega
                        have b7 : ((C1 + 1 : Nat) : Int) < (K : Int) + 1 := by omega
                        have s3 := (World.cell?_setCell_other w4 ⟨R, m, none⟩ ⟨R', m, none⟩ (.int .i64 (rest + x)) (by simp [hne4])).trans cR'
                        have hs1 := hide (((HR4.out.store m (rest + x)).far (p := ⟨R', m, none⟩) hne4 (.int .i64 ((j : Int) + 1))).congr (f' := fun v => if v < m then tc l (C1 + 1) v else if v = m then rest + x else 0) (fun v _ => by
                          by_cases h : v = m
                          · subst h; simp
                          · simp only [if_neg h]))
                        have hs2 := hide (((HR4'.out.far (p := ⟨R, m, none⟩) (Ne.symm hne4) (.int .i64 (rest + x))).store m ((j : Int) + 1)).congr (f' := fun v => if v < m then (tl l (C1 + 1) v : Int) else if v = m then ((j + 1 : Nat) : Int) else 0) (fun v _ => by
                          by_cases h : v = m
                          · subst h; simp
                          · simp only [if_neg h]))
                        have hs3 := hide ((hbm4.setCell (show H1 ≤ (⟨R, m, none⟩ : Addr).block from HH1.out.1) (.int .i64 (rest + x))).setCell (show H1 ≤ (⟨R', m, none⟩ : Addr).block from HH1.out.2.1) (.int .i64 ((j : Int) + 1)))
                        clear HR4 HR4'
                        go_region
                        all_goals
                          clear b0 b1 b2 b3 b4 b5 b6 b7 s3
                          go_wp2_with fail
                          go_roundw
                          case rel => first | exact ⟨j + 1, by go_num, fun h => (by cases h), by have := HU.out; omega, by rw [Nat.add_sub_cancel, hE.out]; exact hs1.out, by rw [Nat.add_sub_cancel, hE.out]; exact hs2.out, below_drew2 hs3.out⟩ | ((repeat apply Exists.intro); exact ⟨⟨j + 1, by go_num, fun h => (by cases h), by have := HU.out; omega, by rw [Nat.add_sub_cancel, hE.out]; exact hs1.out, by rw [Nat.add_sub_cancel, hE.out]; exact hs2.out, below_drew2 hs3.out⟩, rfl⟩)
                          case measure => simp [intOf]; omega
                      · have d1 : decide (p1 < 0) = false := by simp; omega
                        have d2 : decide (rest + x < p1) = true := by simpa using h2
                        have hE := hide (show tm l (tc l C1) m (j + 1) = (rest + x, j + 1) by rw [HTM.out, if_neg (show ¬ rest < 0 by omega), if_pos (.inr h2)])
                        clear HTM HROWp HROWp'
                        go_wp2_with fail
                        have b0 : IntKind.i64.wrap (rest + x) = rest + x := IntWalk.i64_in _ (by omega)
                        have b1 : (0 : Int) ≤ (C1 : Int) + 1 := by omega
                        have b2 : (C1 : Int) + 1 < (K : Int) + 1 := by omega
                        have b3 : (0 : Int) ≤ (m : Int) := by omega
                        have b4 : (m : Int) < (n : Int) + 1 := by omega
                        have b5 : ((C1 : Int) + 1).toNat = C1 + 1 := by omega
                        have b6 : (0 : Int) ≤ ((C1 + 1 : Nat) : Int) := by omega
                        have b7 : ((C1 + 1 : Nat) : Int) < (K : Int) + 1 := by omega
                        have s3 := (World.cell?_setCell_other w4 ⟨R, m, none⟩ ⟨R', m, none⟩ (.int .i64 (rest + x)) (by simp [hne4])).trans cR'
                        have hs1 := hide (((HR4.out.store m (rest + x)).far (p := ⟨R', m, none⟩) hne4 (.int .i64 ((j : Int) + 1))).congr (f' := fun v => if v < m then tc l (C1 + 1) v else if v = m then rest + x else 0) (fun v _ => by
                          by_cases h : v = m
                          · subst h; simp
                          · simp only [if_neg h]))
                        have hs2 := hide (((HR4'.out.far (p := ⟨R, m, none⟩) (Ne.symm hne4) (.int .i64 (rest + x))).store m ((j : Int) + 1)).congr (f' := fun v => if v < m then (tl l (C1 + 1) v : Int) else if v = m then ((j + 1 : Nat) : Int) else 0) (fun v _ => by
                          by_cases h : v = m
                          · subst h; simp
                          · simp only [if_neg h]))
                        have hs3 := hide ((hbm4.setCell (show H1 ≤ (⟨R, m, none⟩ : Addr).block from HH1.out.1) (.int .i64 (rest + x))).setCell (show H1 ≤ (⟨R', m, none⟩ : Addr).block from HH1.out.2.1) (.int .i64 ((j : Int) + 1)))
                        clear HR4 HR4'
                        go_region
                        all_goals
                          clear b0 b1 b2 b3 b4 b5 b6 b7 s3
                          go_wp2_with fail
                          go_roundw
                          case rel => first | exact ⟨j + 1, by go_num, fun h => (by cases h), by have := HU.out; omega, by rw [Nat.add_sub_cancel, hE.out]; exact hs1.out, by rw [Nat.add_sub_cancel, hE.out]; exact hs2.out, below_drew2 hs3.out⟩ | ((repeat apply Exists.intro); exact ⟨⟨j + 1, by go_num, fun h => (by cases h), by have := HU.out; omega, by rw [Nat.add_sub_cancel, hE.out]; exact hs1.out, by rw [Nat.add_sub_cancel, hE.out]; exact hs2.out, below_drew2 hs3.out⟩, rfl⟩)
                          case measure => simp [intOf]; omega
                      · have d1 : decide (p1 < 0) = false := by simp; omega
                        have d2 : decide (rest + x < p1) = false := by simp; omega
                        have hE := hide (show tm l (tc l C1) m (j + 1) = (p1, p2) by rw [HTM.out, if_neg (show ¬ rest < 0 by omega), if_neg (by omega)])
                        clear HTM HROWp HROWp'
                        go_wp2_with fail
                        go_roundw
                        case rel => first | exact ⟨j + 1, by go_num, fun h => (by cases h), by have := HU.out; omega, by rw [Nat.add_sub_cancel, hE.out]; exact HR4.out, by rw [Nat.add_sub_cancel, hE.out]; exact HR4'.out, hbm4⟩ | ((repeat apply Exists.intro); exact ⟨⟨j + 1, by go_num, fun h => (by cases h), by have := HU.out; omega, by rw [Nat.add_sub_cancel, hE.out]; exact HR4.out, by rw [Nat.add_sub_cancel, hE.out]; exact HR4'.out, hbm4⟩, rfl⟩)
                        case measure => simp [intOf]; omega
                  · obtain rfl : j = m := by omega
                    have hr1 := hide (HROW.out.congr (f' := fun v => if v < j + 1 then tc l (C1 + 1) v else 0) (fun v _ => by
                      by_cases h : v < j
                      · rw [if_pos h, if_pos (by omega)]
                      · rw [if_neg h]
                        by_cases h2 : v = j
                        · subst h2
                          rw [if_pos rfl, if_pos (by omega)]
                          simp only [tc]; rw [if_neg (by omega)]
                        · rw [if_neg h2, if_neg (by omega)]))
                    have hr2 := hide (HROW'.out.congr (f' := fun v => if v < j + 1 then (tl l (C1 + 1) v : Int) else 0) (fun v _ => by
                      by_cases h : v < j
                      · rw [if_pos h, if_pos (by omega)]
                      · rw [if_neg h]
                        by_cases h2 : v = j
                        · subst h2
                          rw [if_pos rfl, if_pos (by omega)]
                          simp only [tl]; rw [if_neg (by omega)]
                        · rw [if_neg h2, if_neg (by omega)]))
                    go_wp2_with fail
                    go_roundw
                    case rel => exact ⟨j + 1, by omega, by omega, by go_num, hr1.out, hr2.out, hbm⟩
                    case measure => simp [intOf]; omega
            · obtain rfl : m = n + 1 := by omega
              have m1 : ((n + 1 : Nat) : Int) = (n : Int) + 1 := by omega
              have hfull := hide (HT2.out.full (by rw [if_pos rfl]; have := HH1.out; omega) (by rw [if_pos rfl]; have := HH1.out; omega) (by rw [if_pos rfl]; exact HROW.out.congr (fun v hv => by rw [if_pos (by omega)])) (by rw [if_pos rfl]; exact HROW'.out.congr (fun v hv => by rw [if_pos (by omega)])))
              have hbf := hide (hbW.trans (hbm.mono (show w.heap.size ≤ H1 by have := HH1.out; omega)))
              have hszf := hide (show w.heap.size + 2 ≤ W2.heap.size by have := hbm.size; have := HROW.out.2.2; have := HH1.out; omega)
              clear hrow hrow' HROW HROW' HT2
              go_wp2_with fail
              go_roundw
              case rel => exact ⟨C + 1, _, _, by omega, by go_num, hfull.out, hbf.out, hszf.out⟩
              case measure => simp [intOf]; omega
      · obtain rfl : C = K + 1 := by omega
        go_wp2_with fail
        go_ret2
        exact ⟨_, _, _, _, _, rfl, HTB.out, hbel⟩
  · clear hmk e1
    go_wp2_with fail
    have hT0 : TB l ((w.alloc (.cells (madeCells #[.slice none 0 0] (K + 1)) 26)).alloc (.cells (madeCells #[.slice none 0 0] (K + 1)) 26)) w.heap.size (w.heap.size + 2) (w.heap.size + 1) w.heap.size K n 0 0 (fun _ => 0) (fun _ => 0) := by
      have a1 := (VRow.new w w.heap.size (K + 1) (Nat.le_refl _) (by omega)).alloc (.cells (madeCells #[.slice none 0 0] (K + 1)) 26)
      have a2 := VRow.new (w.alloc (.cells (madeCells #[.slice none 0 0] (K + 1)) 26)) w.heap.size (K + 1) (by simp) (by omega)
      rw [World.size_alloc] at a2
      exact ⟨⟨a2.congr (fun v _ => by rw [if_neg (by omega)]), a1.congr (fun v _ => by rw [if_neg (by omega)])⟩, by omega, by omega, by omega, fun c hc => by omega⟩
    have HT0 := hide hT0
    clear hT0
    go_loopw [22] (fun i wr => ∃ (C : Nat) (rc rl : Nat → Nat), C ≤ K + 1 ∧ i = .int .i64 C ∧ TB l wr w.heap.size (w.heap.size + 2) (w.heap.size + 1) w.heap.size K n C C rc rl ∧ Below w.heap.size w wr ∧ w.heap.size + 2 ≤ wr.heap.size) (fun i _ => K + 1 - (intOf i).toNat)
    case atStart => exact ⟨0, _, _, by omega, rfl, HT0.out, by go_grown, by simp⟩
    case round =>
      clear HT0
      obtain ⟨C, rc, rl, hC, rfl, htb, hbel, hz⟩ := hrel
      have HTB := hide htb
      by_cases hlt : C < K + 1
      · obtain ⟨⟨v1, v2⟩, hne, hg1, hg2, -⟩ := htb
        obtain ⟨cc, fc⟩ := v1.cell hlt
        obtain ⟨cl, fl⟩ := v2.cell hlt
        rw [if_neg (Nat.lt_irrefl _)] at cc cl
        have V1 := hide v1
        have V2 := hide v2
        have HLT := hide HTB.out.lt
        obtain ⟨H1, hH1⟩ : ∃ H1, H1 = wr.heap.size := ⟨_, rfl⟩
        have q0 : (0 : Int) ≤ (C : Int) := by omega
        have q1 : (C : Int) < (K : Int) + 1 := by omega
        have q2 : IntKind.i64.wrap ((n : Int) + 1) = (n : Int) + 1 := IntWalk.i64_in _ (by omega)
        have hmk2 := HMK2.out
        have N1 := sizes (show w.heap.size < wr.heap.size by omega)
        have N2 := sizes (show w.heap.size + 1 < wr.heap.size by omega)
        clear v1 v2
        go_wp2_with fail
        go_region
        · clear hmk2 q0 q1 q2 cc cl fc fl
          go_wp2_with fail
          have HNEW := hide (rows_new wr w.heap.size n (by omega) (by omega) ⟨(w.heap.size + 1), C, none⟩ ⟨w.heap.size, C, none⟩ (hd n (wr.heap.size)) (hd n (wr.heap.size + 1)))
          have hHE := hide hH1
          refine letter3 (w := w) (fun W => TB l W w.heap.size (w.heap.size + 2) (w.heap.size + 1) w.heap.size K n (C + 1) C (fun u => if u = C then (wr.heap.size) else rc u) (fun u => if u = C then (wr.heap.size + 1) else rl u) ∧ Zone.Row W w.heap.size ((wr.heap.size)) n (fun _ => 0) ∧ Zone.Row W w.heap.size ((wr.heap.size + 1)) n (fun _ => 0)) ⟨HTB.out.add hlt ((wr.heap.size)) ((wr.heap.size + 1)) _ _, HNEW.out.1, HNEW.out.2⟩
            (below_drew2 ((((hbel.setCell (by simp) _).setCell (by simp) _).alloc (by simp; omega) _).alloc (by simp; omega) _)) ?_
          clear V1 V2 N1 N2 HNEW HTB hbel
          have HH1 := hide (show H1 ≤ (wr.heap.size) ∧ H1 ≤ (wr.heap.size + 1) ∧ w.heap.size + 2 ≤ H1 ∧ (wr.heap.size) ≠ (wr.heap.size + 1) by omega)
          rw [← hH1] at HLT
          generalize hRB : wr.heap.size + 1 = R' at *
          generalize hRA : wr.heap.size = R at *
          rintro W ⟨htb, hrow, hrow'⟩ hbW
          have HTB := hide htb
          have HROW := hide hrow
          have HROW' := hide hrow'
          have HLT2 := hide (fun c (hc : c < C) => (show (if c = C then R else rc c) < H1 ∧ (if c = C then R' else rl c) < H1 by rw [if_neg (by omega), if_neg (by omega)]; exact HLT.out c hc))
          clear htb hrow hrow' hRA hRB hH1
          go_loopw [9] (fun i wr => ∃ m : Nat, 1 ≤ m ∧ m ≤ n + 1 ∧ i = .int .i64 m ∧ Zone.Row wr w.heap.size R n (fun v => if v < m then tc l C v else 0) ∧ Zone.Row wr w.heap.size R' n (fun v => if v < m then (tl l C v : Int) else 0) ∧ Below H1 W wr) (fun i _ => n + 1 - (intOf i).toNat)
          case atStart => exact ⟨1, Nat.le_refl _, by omega, rfl, HROW.out.congr (fun v _ => by
              by_cases h : v < 1
              · obtain rfl : v = 0 := by omega
                simp [tc_zero]
              · rw [if_neg h]), HROW'.out.congr (fun v _ => by
              by_cases h : v < 1
              · obtain rfl : v = 0 := by omega
                simp [tl_zero]
              · rw [if_neg h]), Below.refl _ _⟩
          case round =>
            clear HROW HROW'
            obtain ⟨m, hm1, hm, rfl, hrow, hrow', hbm⟩ := hrel
            obtain ⟨W2, hW2⟩ : ∃ W2, W2 = wr := ⟨_, rfl⟩
            subst hW2
            have HROW := hide hrow
            have HROW' := hide hrow'
            have HT2 := hide (HTB.out.below hbm HH1.out.2.2.1 HLT2.out)
            by_cases hlt2 : m ≤ n
            · obtain ⟨cc, fc⟩ := HT2.out.1.1.cell hlt
              simp only [Nat.lt_succ_self, if_true] at cc
              obtain ⟨cR, fR⟩ := HROW.out.cell hlt2
              have hst := hide ((HROW.out.store m (-1)).congr (f' := fun v => if v < m then tc l C v else if v = m then (tm l (tc l (C - 1)) m 0).1 else 0) (fun v _ => by
                by_cases h : v = m
                · subst h; simp [tm]
                · simp only [if_neg h]))
              have hst' := hide ((HROW'.out.far (p := ⟨R, m, none⟩) (Ne.symm HH1.out.2.2.2) (.int .i64 (-1))).congr (f' := fun v => if v < m then (tl l C v : Int) else if v = m then ((tm l (tc l (C - 1)) m 0).2 : Int) else 0) (fun v _ => by
                by_cases h : v < m
                · simp only [if_pos h]
                · simp only [if_neg h]
                  by_cases h2 : v = m
                  · simp [h2, tm]
                  · simp only [if_neg h2]))
              have hbst := hide (hbm.setCell (show H1 ≤ (⟨R, m, none⟩ : Addr).block from HH1.out.1) (.int .i64 (-1)))
              have m1 : (1 : Int) ≤ (m : Int) := by omega
              clear hrow hrow'
              go_wp2_with fail
              go_loopw [10] (fun i wr => ∃ j : Nat, i = .int .i64 ((j : Int) + 1) ∧ (C = 0 → j = 0) ∧ j ≤ m ∧ Zone.Row wr w.heap.size R n (fun v => if v < m then tc l C v else if v = m then (tm l (tc l (C - 1)) m j).1 else 0) ∧ Zone.Row wr w.heap.size R' n (fun v => if v < m then (tl l C v : Int) else if v = m then ((tm l (tc l (C - 1)) m j).2 : Int) else 0) ∧ Below H1 W wr) (fun i _ => m + 2 - (intOf i).toNat)
              case atStart => exact ⟨0, rfl, fun _ => rfl, by omega, hst.out, hst'.out, hbst.out⟩
              case round =>
                clear HROW HROW' HT2 hst hst' hbst hbm cc fc cR fR
                obtain ⟨j, rfl, hj0, hjm, hrow, hrow', hbm⟩ := hrel
                obtain ⟨W3, hW3⟩ : ∃ W3, W3 = wr := ⟨_, rfl⟩
                subst hW3
                have HROW := hide hrow
                have HROW' := hide hrow'
                have HT3 := hide (HTB.out.below hbm HH1.out.2.2.1 HLT2.out)
                clear hrow hrow'
                rcases Nat.eq_zero_or_pos C with hc0 | hc0
                · have g2 : decide ((0 : Int) < (C : Int)) = false := by simp; omega
                  have g3 : decide (0 < C) = false := by simp; omega
                  have HC0 := hide hc0
                  have HJ := hide (hj0 hc0)
                  have hr1 := hide (HROW.out.congr (f' := fun v => if v < m + 1 then tc l C v else 0) (fun v _ => by
                    by_cases h : v < m
                    · rw [if_pos h, if_pos (by omega)]
                    · rw [if_neg h]
                      by_cases h2 : v = m
                      · subst h2
                        rw [if_pos rfl, if_pos (by omega), HJ.out, HC0.out]
                        simp only [tm, tc]; rw [if_neg (by omega)]
                      · rw [if_neg h2, if_neg (by omega)]))
                  have hr2 := hide (HROW'.out.congr (f' := fun v => if v < m + 1 then (tl l C v : Int) else 0) (fun v _ => by
                    by_cases h : v < m
                    · rw [if_pos h, if_pos (by omega)]
                    · rw [if_neg h]
                      by_cases h2 : v = m
                      · subst h2
                        rw [if_pos rfl, if_pos (by omega), HJ.out, HC0.out]
                        simp only [tm, tl]
                      · rw [if_neg h2, if_neg (by omega)]))
                  clear hc0 hj0
                  go_wp2_with fail
                  go_roundw
                  case rel => exact ⟨m + 1, by omega, by omega, by go_num, hr1.out, hr2.out, hbm⟩
                  case measure => simp [intOf]; omega
                · have g2 : decide ((0 : Int) < (C : Int)) = true := by simp; omega
                  have g3 : decide (0 < C) = true := by simp; omega
                  obtain ⟨C1, rfl⟩ : ∃ C1, C = C1 + 1 := ⟨C - 1, by omega⟩
                  rw [Nat.add_sub_cancel] at HROW HROW'
                  by_cases hj : j < m
                  · obtain ⟨u, hu⟩ : ∃ u, m = u + (j + 1) := ⟨m - (j + 1), by omega⟩
                    have hum : m - (j + 1) = u := by omega
                    have htm : tm l (tc l C1) m (j + 1) = if tc l C1 u < 0 then tm l (tc l C1) m j else if (tm l (tc l C1) m j).1 < 0 ∨ tc l C1 u + (one l u m).2 < (tm l (tc l C1) m j).1 then (tc l C1 u + (one l u m).2, j + 1) else tm l (tc l C1) m j := by simp only [tm, hum]
                    have HTM := hide htm
                    obtain ⟨r1, r2⟩ := tc_range Hok.out C1 u (by omega)
                    have r3 : tc l C1 u ≤ 2199023255552 := by omega
                    have e2 : (m : Int) - ((j : Int) + 1) = (u : Int) := by omega
                    have c1 : ((C1 + 1 : Nat) : Int) - 1 = (C1 : Int) := by omega
                    have hbw3 := hbW.trans (hbm.mono (show w.heap.size ≤ H1 by have := HH1.out; omega))
                    have hH3 : H1 ≤ W3.heap.size := by have := HROW.out.2.2; have := HH1.out; omega
                    have hrowc := (HT3.out.2.2.2.2 C1 (Nat.lt_succ_self _)).1.2
                    simp only [if_neg (show ¬ C1 = C1 + 1 by omega)] at hrowc
                    obtain ⟨cu, fu⟩ := hrowc.cell (show u ≤ n by omega)
                    obtain ⟨ch, fh⟩ := HT3.out.1.1.cell (show C1 < K + 1 by omega)
                    simp only [if_neg (show ¬ C1 = C1 + 1 by omega), if_pos (show C1 < C1 + 1 + 1 by omega)] at ch
                    have HU := hide hu
                    have hone := hide (park_one A n c B l u m W3 (HR.out.below (hbw3.mono hB)) (by have := hbw3.size; omega) Hl.out Hok.out (by omega) (by omega))
                    obtain ⟨_, _, o1, o2, o3⟩ := og_range Hok.out u m (by omega) (by omega) (m - u) (by omega)
                    have o4 := (o3 (by omega)).1
                    have o5 : (one l u m).2 = (og l u m (m - u)).2 := rfl
                    rw [← o5] at o2 o4
                    clear hrowc htm hu hum r2 o1 o3 o5
                    generalize tc l C1 u = rest at *
                    obtain ⟨P, hP⟩ : ∃ P, P = tm l (tc l C1) m j := ⟨_, rfl⟩
                    rw [← hP] at HTM
                    have HROWp := hide (show Zone.Row W3 w.heap.size R n (fun v => if v < m then tc l (C1 + 1) v else if v = m then P.1 else 0) by rw [hP]; exact HROW.out)
                    have HROWp' := hide (show Zone.Row W3 w.heap.size R' n (fun v => if v < m then (tl l (C1 + 1) v : Int) else if v = m then (P.2 : Int) else 0) by rw [hP]; exact HROW'.out)
                    clear hP HROW HROW'
                    by_cases hrest : rest < 0
                    · have hE := hide (show tm l (tc l C1) m (j + 1) = P by rw [HTM.out, if_pos (show rest < 0 by omega)])
                      clear HTM
                      go_wp2_with fail
                      go_roundw
                      case rel => first | exact ⟨j + 1, by go_num, fun h => (by cases h), by have := HU.out; omega, by rw [Nat.add_sub_cancel, hE.out]; exact HROWp.out, by rw [Nat.add_sub_cancel, hE.out]; exact HROWp'.out, hbm⟩ | ((repeat apply Exists.intro); exact ⟨⟨j + 1, by go_num, fun h => (by cases h), by have := HU.out; omega, by rw [Nat.add_sub_cancel, hE.out]; exact HROWp.out, by rw [Nat.add_sub_cancel, hE.out]; exact HROWp'.out, hbm⟩, rfl⟩)
                      case measure => simp [intOf]; omega
                    · have hrest2 : 0 ≤ rest := by omega
                      go_wp2_with fail
                      refine (hone.out).mono ?_; rintro e w4 ⟨rfl, hb4⟩
                      have HR4 := hide (HROWp.out.below hb4 HROWp.out.2.2)
                      have HR4' := hide (HROWp'.out.below hb4 HROWp'.out.2.2)
                      have hbm4 := hbm.trans (hb4.mono hH3)
                      have HT4 := hide (HTB.out.below hbm4 HH1.out.2.2.1 HLT2.out)
                      obtain ⟨cc, fc⟩ := HT4.out.1.1.cell hlt
                      obtain ⟨cl, fl⟩ := HT4.out.1.2.cell hlt
                      simp only [Nat.lt_succ_self, if_true] at cc cl
                      obtain ⟨cR, fR⟩ := HR4.out.cell hlt2
                      obtain ⟨cR', fR'⟩ := HR4'.out.cell hlt2
                      simp only [Nat.lt_irrefl, if_false, if_true] at cR cR'
                      have hne4 := HH1.out.2.2.2
                      clear hone hb4 cu fu ch fh HT4
                      generalize (one l u m).2 = x at *
                      generalize (one l u m).1 = y at *
                      obtain ⟨p1, p2⟩ := P
                      simp only at HTM HR4 HR4' cR cR'
                      rcases (show p1 < 0 ∨ (0 ≤ p1 ∧ rest + x < p1) ∨ (0 ≤ p1 ∧ p1 ≤ rest + x) by omega) with h1 | ⟨h1, h2⟩ | ⟨h1, h2⟩
                      · have d1 : decide (p1 < 0) = true := by simpa using h1
                        have hE := hide (show tm l (tc l C1) m (j + 1) = (rest + x, j + 1) by rw [HTM.out, if_neg (show ¬ rest < 0 by omega), if_pos (.inl h1)])
                        clear HTM HROWp HROWp'
                        go_wp2_with fail
                        have b0 : IntKind.i64.wrap (rest + x) = rest + x := IntWalk.i64_in _ (by omega)
                        have b1 : (0 : Int) ≤ (C1 : Int) + 1 := by omega
                        have b2 : (C1 : Int) + 1 < (K : Int) + 1 := by omega
                        have b3 : (0 : Int) ≤ (m : Int) := by omega
                        have b4 : (m : Int) < (n : Int) + 1 := by omega
                        have b5 : ((C1 : Int) + 1).toNat = C1 + 1 := by omega
                        have b6 : (0 : Int) ≤ ((C1 + 1 : Nat) : Int) := by omega
                        have b7 : ((C1 + 1 : Nat) : Int) < (K : Int) + 1 := by omega
                        have s3 := (World.cell?_setCell_other w4 ⟨R, m, none⟩ ⟨R', m, none⟩ (.int .i64 (rest + x)) (by simp [hne4])).trans cR'
                        have hs1 := hide (((HR4.out.store m (rest + x)).far (p := ⟨R', m, none⟩) hne4 (.int .i64 ((j : Int) + 1))).congr (f' := fun v => if v < m then tc l (C1 + 1) v else if v = m then rest + x else 0) (fun v _ => by
                          by_cases h : v = m
                          · subst h; simp
                          · simp only [if_neg h]))
                        have hs2 := hide (((HR4'.out.far (p := ⟨R, m, none⟩) (Ne.symm hne4) (.int .i64 (rest + x))).store m ((j : Int) + 1)).congr (f' := fun v => if v < m then (tl l (C1 + 1) v : Int) else if v = m then ((j + 1 : Nat) : Int) else 0) (fun v _ => by
                          by_cases h : v = m
                          · subst h; simp
                          · simp only [if_neg h]))
                        have hs3 := hide ((hbm4.setCell (show H1 ≤ (⟨R, m, none⟩ : Addr).block from HH1.out.1) (.int .i64 (rest + x))).setCell (show H1 ≤ (⟨R', m, none⟩ : Addr).block from HH1.out.2.1) (.int .i64 ((j : Int) + 1)))
                        clear HR4 HR4'
                        go_region
                        all_goals
                          clear b0 b1 b2 b3 b4 b5 b6 b7 s3
                          go_wp2_with fail
                          go_roundw
                          case rel => first | exact ⟨j + 1, by go_num, fun h => (by cases h), by have := HU.out; omega, by rw [Nat.add_sub_cancel, hE.out]; exact hs1.out, by rw [Nat.add_sub_cancel, hE.out]; exact hs2.out, below_drew2 hs3.out⟩ | ((repeat apply Exists.intro); exact ⟨⟨j + 1, by go_num, fun h => (by cases h), by have := HU.out; omega, by rw [Nat.add_sub_cancel, hE.out]; exact hs1.out, by rw [Nat.add_sub_cancel, hE.out]; exact hs2.out, below_drew2 hs3.out⟩, rfl⟩)
                          case measure => simp [intOf]; omega
                      · have d1 : decide (p1 < 0) = false := by simp; omega
                        have d2 : decide (rest + x < p1) = true := by simpa using h2
                        have hE := hide (show tm l (tc l C1) m (j + 1) = (rest + x, j + 1) by rw [HTM.out, if_neg (show ¬ rest < 0 by omega), if_pos (.inr h2)])
                        clear HTM HROWp HROWp'
                        go_wp2_with fail
                        have b0 : IntKind.i64.wrap (rest + x) = rest + x := IntWalk.i64_in _ (by omega)
                        have b1 : (0 : Int) ≤ (C1 : Int) + 1 := by omega
                        have b2 : (C1 : Int) + 1 < (K : Int) + 1 := by omega
                        have b3 : (0 : Int) ≤ (m : Int) := by omega
                        have b4 : (m : Int) < (n : Int) + 1 := by omega
                        have b5 : ((C1 : Int) + 1).toNat = C1 + 1 := by omega
                        have b6 : (0 : Int) ≤ ((C1 + 1 : Nat) : Int) := by omega
                        have b7 : ((C1 + 1 : Nat) : Int) < (K : Int) + 1 := by omega
                        have s3 := (World.cell?_setCell_other w4 ⟨R, m, none⟩ ⟨R', m, none⟩ (.int .i64 (rest + x)) (by simp [hne4])).trans cR'
                        have hs1 := hide (((HR4.out.store m (rest + x)).far (p := ⟨R', m, none⟩) hne4 (.int .i64 ((j : Int) + 1))).congr (f' := fun v => if v < m then tc l (C1 + 1) v else if v = m then rest + x else 0) (fun v _ => by
                          by_cases h : v = m
                          · subst h; simp
                          · simp only [if_neg h]))
                        have hs2 := hide (((HR4'.out.far (p := ⟨R, m, none⟩) (Ne.symm hne4) (.int .i64 (rest + x))).store m ((j : Int) + 1)).congr (f' := fun v => if v < m then (tl l (C1 + 1) v : Int) else if v = m then ((j + 1 : Nat) : Int) else 0) (fun v _ => by
                          by_cases h : v = m
                          · subst h; simp
                          · simp only [if_neg h]))
                        have hs3 := hide ((hbm4.setCell (show H1 ≤ (⟨R, m, none⟩ : Addr).block from HH1.out.1) (.int .i64 (rest + x))).setCell (show H1 ≤ (⟨R', m, none⟩ : Addr).block from HH1.out.2.1) (.int .i64 ((j : Int) + 1)))
                        clear HR4 HR4'
                        go_region
                        all_goals
                          clear b0 b1 b2 b3 b4 b5 b6 b7 s3
                          go_wp2_with fail
                          go_roundw
                          case rel => first | exact ⟨j + 1, by go_num, fun h => (by cases h), by have := HU.out; omega, by rw [Nat.add_sub_cancel, hE.out]; exact hs1.out, by rw [Nat.add_sub_cancel, hE.out]; exact hs2.out, below_drew2 hs3.out⟩ | ((repeat apply Exists.intro); exact ⟨⟨j + 1, by go_num, fun h => (by cases h), by have := HU.out; omega, by rw [Nat.add_sub_cancel, hE.out]; exact hs1.out, by rw [Nat.add_sub_cancel, hE.out]; exact hs2.out, below_drew2 hs3.out⟩, rfl⟩)
                          case measure => simp [intOf]; omega
                      · have d1 : decide (p1 < 0) = false := by simp; omega
                        have d2 : decide (rest + x < p1) = false := by simp; omega
                        have hE := hide (show tm l (tc l C1) m (j + 1) = (p1, p2) by rw [HTM.out, if_neg (show ¬ rest < 0 by omega), if_neg (by omega)])
                        clear HTM HROWp HROWp'
                        go_wp2_with fail
                        go_roundw
                        case rel => first | exact ⟨j + 1, by go_num, fun h => (by cases h), by have := HU.out; omega, by rw [Nat.add_sub_cancel, hE.out]; exact HR4.out, by rw [Nat.add_sub_cancel, hE.out]; exact HR4'.out, hbm4⟩ | ((repeat apply Exists.intro); exact ⟨⟨j + 1, by go_num, fun h => (by cases h), by have := HU.out; omega, by rw [Nat.add_sub_cancel, hE.out]; exact HR4.out, by rw [Nat.add_sub_cancel, hE.out]; exact HR4'.out, hbm4⟩, rfl⟩)
                        case measure => simp [intOf]; omega
                  · obtain rfl : j = m := by omega
                    have hr1 := hide (HROW.out.congr (f' := fun v => if v < j + 1 then tc l (C1 + 1) v else 0) (fun v _ => by
                      by_cases h : v < j
                      · rw [if_pos h, if_pos (by omega)]
                      · rw [if_neg h]
                        by_cases h2 : v = j
                        · subst h2
                          rw [if_pos rfl, if_pos (by omega)]
                          simp only [tc]; rw [if_neg (by omega)]
                        · rw [if_neg h2, if_neg (by omega)]))
                    have hr2 := hide (HROW'.out.congr (f' := fun v => if v < j + 1 then (tl l (C1 + 1) v : Int) else 0) (fun v _ => by
                      by_cases h : v < j
                      · rw [if_pos h, if_pos (by omega)]
                      · rw [if_neg h]
                        by_cases h2 : v = j
                        · subst h2
                          rw [if_pos rfl, if_pos (by omega)]
                          simp only [tl]; rw [if_neg (by omega)]
                        · rw [if_neg h2, if_neg (by omega)]))
                    go_wp2_with fail
                    go_roundw
                    case rel => exact ⟨j + 1, by omega, by omega, by go_num, hr1.out, hr2.out, hbm⟩
                    case measure => simp [intOf]; omega
            · obtain rfl : m = n + 1 := by omega
              have m1 : ((n + 1 : Nat) : Int) = (n : Int) + 1 := by omega
              have hfull := hide (HT2.out.full (by rw [if_pos rfl]; have := HH1.out; omega) (by rw [if_pos rfl]; have := HH1.out; omega) (by rw [if_pos rfl]; exact HROW.out.congr (fun v hv => by rw [if_pos (by omega)])) (by rw [if_pos rfl]; exact HROW'.out.congr (fun v hv => by rw [if_pos (by omega)])))
              have hbf := hide (hbW.trans (hbm.mono (show w.heap.size ≤ H1 by have := HH1.out; omega)))
              have hszf := hide (show w.heap.size + 2 ≤ W2.heap.size by have := hbm.size; have := HROW.out.2.2; have := HH1.out; omega)
              clear hrow hrow' HROW HROW' HT2
              go_wp2_with fail
              go_roundw
              case rel => exact ⟨C + 1, _, _, by omega, by go_num, hfull.out, hbf.out, hszf.out⟩
              case measure => simp [intOf]; omega
        · clear hmk2 q0 q1 q2 cc cl fc fl
          go_wp2_with fail
          have HNEW := hide (rows_new wr w.heap.size n (by omega) (by omega) ⟨(w.heap.size + 1), C, none⟩ ⟨w.heap.size, C, none⟩ (hd n (wr.heap.size + 1)) (hd n (wr.heap.size)))
          have hHE := hide hH1
          refine letter3 (w := w) (fun W => TB l W w.heap.size (w.heap.size + 2) (w.heap.size + 1) w.heap.size K n (C + 1) C (fun u => if u = C then (wr.heap.size + 1) else rc u) (fun u => if u = C then (wr.heap.size) else rl u) ∧ Zone.Row W w.heap.size ((wr.heap.size + 1)) n (fun _ => 0) ∧ Zone.Row W w.heap.size ((wr.heap.size)) n (fun _ => 0)) ⟨HTB.out.add hlt ((wr.heap.size + 1)) ((wr.heap.size)) _ _, HNEW.out.2, HNEW.out.1⟩
            (below_drew2 ((((hbel.setCell (by simp) _).setCell (by simp) _).alloc (by simp; omega) _).alloc (by simp; omega) _)) ?_
          clear V1 V2 N1 N2 HNEW HTB hbel
          have HH1 := hide (show H1 ≤ (wr.heap.size + 1) ∧ H1 ≤ (wr.heap.size) ∧ w.heap.size + 2 ≤ H1 ∧ (wr.heap.size + 1) ≠ (wr.heap.size) by omega)
          rw [← hH1] at HLT
          generalize hRB : wr.heap.size + 1 = R at *
          generalize hRA : wr.heap.size = R' at *
          rintro W ⟨htb, hrow, hrow'⟩ hbW
          have HTB := hide htb
          have HROW := hide hrow
          have HROW' := hide hrow'
          have HLT2 := hide (fun c (hc : c < C) => (show (if c = C then R else rc c) < H1 ∧ (if c = C then R' else rl c) < H1 by rw [if_neg (by omega), if_neg (by omega)]; exact HLT.out c hc))
          clear htb hrow hrow' hRA hRB hH1
          go_loopw [9] (fun i wr => ∃ m : Nat, 1 ≤ m ∧ m ≤ n + 1 ∧ i = .int .i64 m ∧ Zone.Row wr w.heap.size R n (fun v => if v < m then tc l C v else 0) ∧ Zone.Row wr w.heap.size R' n (fun v => if v < m then (tl l C v : Int) else 0) ∧ Below H1 W wr) (fun i _ => n + 1 - (intOf i).toNat)
          case atStart => exact ⟨1, Nat.le_refl _, by omega, rfl, HROW.out.congr (fun v _ => by
              by_cases h : v < 1
              · obtain rfl : v = 0 := by omega
                simp [tc_zero]
              · rw [if_neg h]), HROW'.out.congr (fun v _ => by
              by_cases h : v < 1
              · obtain rfl : v = 0 := by omega
                simp [tl_zero]
              · rw [if_neg h]), Below.refl _ _⟩
          case round =>
            clear HROW HROW'
            obtain ⟨m, hm1, hm, rfl, hrow, hrow', hbm⟩ := hrel
            obtain ⟨W2, hW2⟩ : ∃ W2, W2 = wr := ⟨_, rfl⟩
            subst hW2
            have HROW := hide hrow
            have HROW' := hide hrow'
            have HT2 := hide (HTB.out.below hbm HH1.out.2.2.1 HLT2.out)
            by_cases hlt2 : m ≤ n
            · obtain ⟨cc, fc⟩ := HT2.out.1.1.cell hlt
              simp only [Nat.lt_succ_self, if_true] at cc
              obtain ⟨cR, fR⟩ := HROW.out.cell hlt2
              have hst := hide ((HROW.out.store m (-1)).congr (f' := fun v => if v < m then tc l C v else if v = m then (tm l (tc l (C - 1)) m 0).1 else 0) (fun v _ => by
                by_cases h : v = m
                · subst h; simp [tm]
                · simp only [if_neg h]))
              have hst' := hide ((HROW'.out.far (p := ⟨R, m, none⟩) (Ne.symm HH1.out.2.2.2) (.int .i64 (-1))).congr (f' := fun v => if v < m then (tl l C v : Int) else if v = m then ((tm l (tc l (C - 1)) m 0).2 : Int) else 0) (fun v _ => by
                by_cases h : v < m
                · simp only [if_pos h]
                · simp only [if_neg h]
                  by_cases h2 : v = m
                  · simp [h2, tm]
                  · simp only [if_neg h2]))
              have hbst := hide (hbm.setCell (show H1 ≤ (⟨R, m, none⟩ : Addr).block from HH1.out.1) (.int .i64 (-1)))
              have m1 : (1 : Int) ≤ (m : Int) := by omega
              clear hrow hrow'
              go_wp2_with fail
              go_loopw [10] (fun i wr => ∃ j : Nat, i = .int .i64 ((j : Int) + 1) ∧ (C = 0 → j = 0) ∧ j ≤ m ∧ Zone.Row wr w.heap.size R n (fun v => if v < m then tc l C v else if v = m then (tm l (tc l (C - 1)) m j).1 else 0) ∧ Zone.Row wr w.heap.size R' n (fun v => if v < m then (tl l C v : Int) else if v = m then ((tm l (tc l (C - 1)) m j).2 : Int) else 0) ∧ Below H1 W wr) (fun i _ => m + 2 - (intOf i).toNat)
              case atStart => exact ⟨0, rfl, fun _ => rfl, by omega, hst.out, hst'.out, hbst.out⟩
              case round =>
                clear HROW HROW' HT2 hst hst' hbst hbm cc fc cR fR
                obtain ⟨j, rfl, hj0, hjm, hrow, hrow', hbm⟩ := hrel
                obtain ⟨W3, hW3⟩ : ∃ W3, W3 = wr := ⟨_, rfl⟩
                subst hW3
                have HROW := hide hrow
                have HROW' := hide hrow'
                have HT3 := hide (HTB.out.below hbm HH1.out.2.2.1 HLT2.out)
                clear hrow hrow'
                rcases Nat.eq_zero_or_pos C with hc0 | hc0
                · have g2 : decide ((0 : Int) < (C : Int)) = false := by simp; omega
                  have g3 : decide (0 < C) = false := by simp; omega
                  have HC0 := hide hc0
                  have HJ := hide (hj0 hc0)
                  have hr1 := hide (HROW.out.congr (f' := fun v => if v < m + 1 then tc l C v else 0) (fun v _ => by
                    by_cases h : v < m
                    · rw [if_pos h, if_pos (by omega)]
                    · rw [if_neg h]
                      by_cases h2 : v = m
                      · subst h2
                        rw [if_pos rfl, if_pos (by omega), HJ.out, HC0.out]
                        simp only [tm, tc]; rw [if_neg (by omega)]
                      · rw [if_neg h2, if_neg (by omega)]))
                  have hr2 := hide (HROW'.out.congr (f' := fun v => if v < m + 1 then (tl l C v : Int) else 0) (fun v _ => by
                    by_cases h : v < m
                    · rw [if_pos h, if_pos (by omega)]
                    · rw [if_neg h]
                      by_cases h2 : v = m
                      · subst h2
                        rw [if_pos rfl, if_pos (by omega), HJ.out, HC0.out]
                        simp only [tm, tl]
                      · rw [if_neg h2, if_neg (by omega)]))
                  clear hc0 hj0
                  go_wp2_with fail
                  go_roundw
                  case rel => exact ⟨m + 1, by omega, by omega, by go_num, hr1.out, hr2.out, hbm⟩
                  case measure => simp [intOf]; omega
                · have g2 : decide ((0 : Int) < (C : Int)) = true := by simp; omega
                  have g3 : decide (0 < C) = true := by simp; omega
                  obtain ⟨C1, rfl⟩ : ∃ C1, C = C1 + 1 := ⟨C - 1, by omega⟩
                  rw [Nat.add_sub_cancel] at HROW HROW'
                  by_cases hj : j < m
                  · obtain ⟨u, hu⟩ : ∃ u, m = u + (j + 1) := ⟨m - (j + 1), by omega⟩
                    have hum : m - (j + 1) = u := by omega
                    have htm : tm l (tc l C1) m (j + 1) = if tc l C1 u < 0 then tm l (tc l C1) m j else if (tm l (tc l C1) m j).1 < 0 ∨ tc l C1 u + (one l u m).2 < (tm l (tc l C1) m j).1 then (tc l C1 u + (one l u m).2, j + 1) else tm l (tc l C1) m j := by simp only [tm, hum]
                    have HTM := hide htm
                    obtain ⟨r1, r2⟩ := tc_range Hok.out C1 u (by omega)
                    have r3 : tc l C1 u ≤ 2199023255552 := by omega
                    have e2 : (m : Int) - ((j : Int) + 1) = (u : Int) := by omega
                    have c1 : ((C1 + 1 : Nat) : Int) - 1 = (C1 : Int) := by omega
                    have hbw3 := hbW.trans (hbm.mono (show w.heap.size ≤ H1 by have := HH1.out; omega))
                    have hH3 : H1 ≤ W3.heap.size := by have := HROW.out.2.2; have := HH1.out; omega
                    have hrowc := (HT3.out.2.2.2.2 C1 (Nat.lt_succ_self _)).1.2
                    simp only [if_neg (show ¬ C1 = C1 + 1 by omega)] at hrowc
                    obtain ⟨cu, fu⟩ := hrowc.cell (show u ≤ n by omega)
                    obtain ⟨ch, fh⟩ := HT3.out.1.1.cell (show C1 < K + 1 by omega)
                    simp only [if_neg (show ¬ C1 = C1 + 1 by omega), if_pos (show C1 < C1 + 1 + 1 by omega)] at ch
                    have HU := hide hu
                    have hone := hide (park_one A n c B l u m W3 (HR.out.below (hbw3.mono hB)) (by have := hbw3.size; omega) Hl.out Hok.out (by omega) (by omega))
                    obtain ⟨_, _, o1, o2, o3⟩ := og_range Hok.out u m (by omega) (by omega) (m - u) (by omega)
                    have o4 := (o3 (by omega)).1
                    have o5 : (one l u m).2 = (og l u m (m - u)).2 := rfl
                    rw [← o5] at o2 o4
                    clear hrowc htm hu hum r2 o1 o3 o5
                    generalize tc l C1 u = rest at *
                    obtain ⟨P, hP⟩ : ∃ P, P = tm l (tc l C1) m j := ⟨_, rfl⟩
                    rw [← hP] at HTM
                    have HROWp := hide (show Zone.Row W3 w.heap.size R n (fun v => if v < m then tc l (C1 + 1) v else if v = m then P.1 else 0) by rw [hP]; exact HROW.out)
                    have HROWp' := hide (show Zone.Row W3 w.heap.size R' n (fun v => if v < m then (tl l (C1 + 1) v : Int) else if v = m then (P.2 : Int) else 0) by rw [hP]; exact HROW'.out)
                    clear hP HROW HROW'
                    by_cases hrest : rest < 0
                    · have hE := hide (show tm l (tc l C1) m (j + 1) = P by rw [HTM.out, if_pos (show rest < 0 by omega)])
                      clear HTM
                      go_wp2_with fail
                      go_roundw
                      case rel => first | exact ⟨j + 1, by go_num, fun h => (by cases h), by have := HU.out; omega, by rw [Nat.add_sub_cancel, hE.out]; exact HROWp.out, by rw [Nat.add_sub_cancel, hE.out]; exact HROWp'.out, hbm⟩ | ((repeat apply Exists.intro); exact ⟨⟨j + 1, by go_num, fun h => (by cases h), by have := HU.out; omega, by rw [Nat.add_sub_cancel, hE.out]; exact HROWp.out, by rw [Nat.add_sub_cancel, hE.out]; exact HROWp'.out, hbm⟩, rfl⟩)
                      case measure => simp [intOf]; omega
                    · have hrest2 : 0 ≤ rest := by omega
                      go_wp2_with fail
                      refine (hone.out).mono ?_; rintro e w4 ⟨rfl, hb4⟩
                      have HR4 := hide (HROWp.out.below hb4 HROWp.out.2.2)
                      have HR4' := hide (HROWp'.out.below hb4 HROWp'.out.2.2)
                      have hbm4 := hbm.trans (hb4.mono hH3)
                      have HT4 := hide (HTB.out.below hbm4 HH1.out.2.2.1 HLT2.out)
                      obtain ⟨cc, fc⟩ := HT4.out.1.1.cell hlt
                      obtain ⟨cl, fl⟩ := HT4.out.1.2.cell hlt
                      simp only [Nat.lt_succ_self, if_true] at cc cl
                      obtain ⟨cR, fR⟩ := HR4.out.cell hlt2
                      obtain ⟨cR', fR'⟩ := HR4'.out.cell hlt2
                      simp only [Nat.lt_irrefl, if_false, if_true] at cR cR'
                      have hne4 := HH1.out.2.2.2
                      clear hone hb4 cu fu ch fh HT4
                      generalize (one l u m).2 = x at *
                      generalize (one l u m).1 = y at *
                      obtain ⟨p1, p2⟩ := P
                      simp only at HTM HR4 HR4' cR cR'
                      rcases (show p1 < 0 ∨ (0 ≤ p1 ∧ rest + x < p1) ∨ (0 ≤ p1 ∧ p1 ≤ rest + x) by omega) with h1 | ⟨h1, h2⟩ | ⟨h1, h2⟩
                      · have d1 : decide (p1 < 0) = true := by simpa using h1
                        have hE := hide (show tm l (tc l C1) m (j + 1) = (rest + x, j + 1) by rw [HTM.out, if_neg (show ¬ rest < 0 by omega), if_pos (.inl h1)])
                        clear HTM HROWp HROWp'
                        go_wp2_with fail
                        have b0 : IntKind.i64.wrap (rest + x) = rest + x := IntWalk.i64_in _ (by omega)
                        have b1 : (0 : Int) ≤ (C1 : Int) + 1 := by omega
                        have b2 : (C1 : Int) + 1 < (K : Int) + 1 := by omega
                        have b3 : (0 : Int) ≤ (m : Int) := by omega
                        have b4 : (m : Int) < (n : Int) + 1 := by omega
                        have b5 : ((C1 : Int) + 1).toNat = C1 + 1 := by omega
                        have b6 : (0 : Int) ≤ ((C1 + 1 : Nat) : Int) := by omega
                        have b7 : ((C1 + 1 : Nat) : Int) < (K : Int) + 1 := by omega
                        have s3 := (World.cell?_setCell_other w4 ⟨R, m, none⟩ ⟨R', m, none⟩ (.int .i64 (rest + x)) (by simp [hne4])).trans cR'
                        have hs1 := hide (((HR4.out.store m (rest + x)).far (p := ⟨R', m, none⟩) hne4 (.int .i64 ((j : Int) + 1))).congr (f' := fun v => if v < m then tc l (C1 + 1) v else if v = m then rest + x else 0) (fun v _ => by
                          by_cases h : v = m
                          · subst h; simp
                          · simp only [if_neg h]))
                        have hs2 := hide (((HR4'.out.far (p := ⟨R, m, none⟩) (Ne.symm hne4) (.int .i64 (rest + x))).store m ((j : Int) + 1)).congr (f' := fun v => if v < m then (tl l (C1 + 1) v : Int) else if v = m then ((j + 1 : Nat) : Int) else 0) (fun v _ => by
                          by_cases h : v = m
                          · subst h; simp
                          · simp only [if_neg h]))
                        have hs3 := hide ((hbm4.setCell (show H1 ≤ (⟨R, m, none⟩ : Addr).block from HH1.out.1) (.int .i64 (rest + x))).setCell (show H1 ≤ (⟨R', m, none⟩ : Addr).block from HH1.out.2.1) (.int .i64 ((j : Int) + 1)))
                        clear HR4 HR4'
                        go_region
                        all_goals
                          clear b0 b1 b2 b3 b4 b5 b6 b7 s3
                          go_wp2_with fail
                          go_roundw
                          case rel => first | exact ⟨j + 1, by go_num, fun h => (by cases h), by have := HU.out; omega, by rw [Nat.add_sub_cancel, hE.out]; exact hs1.out, by rw [Nat.add_sub_cancel, hE.out]; exact hs2.out, below_drew2 hs3.out⟩ | ((repeat apply Exists.intro); exact ⟨⟨j + 1, by go_num, fun h => (by cases h), by have := HU.out; omega, by rw [Nat.add_sub_cancel, hE.out]; exact hs1.out, by rw [Nat.add_sub_cancel, hE.out]; exact hs2.out, below_drew2 hs3.out⟩, rfl⟩)
                          case measure => simp [intOf]; omega
                      · have d1 : decide (p1 < 0) = false := by simp; omega
                        have d2 : decide (rest + x < p1) = true := by simpa using h2
                        have hE := hide (show tm l (tc l C1) m (j + 1) = (rest + x, j + 1) by rw [HTM.out, if_neg (show ¬ rest < 0 by omega), if_pos (.inr h2)])
                        clear HTM HROWp HROWp'
                        go_wp2_with fail
                        have b0 : IntKind.i64.wrap (rest + x) = rest + x := IntWalk.i64_in _ (by omega)
                        have b1 : (0 : Int) ≤ (C1 : Int) + 1 := by omega
                        have b2 : (C1 : Int) + 1 < (K : Int) + 1 := by omega
                        have b3 : (0 : Int) ≤ (m : Int) := by omega
                        have b4 : (m : Int) < (n : Int) + 1 := by omega
                        have b5 : ((C1 : Int) + 1).toNat = C1 + 1 := by omega
                        have b6 : (0 : Int) ≤ ((C1 + 1 : Nat) : Int) := by omega
                        have b7 : ((C1 + 1 : Nat) : Int) < (K : Int) + 1 := by omega
                        have s3 := (World.cell?_setCell_other w4 ⟨R, m, none⟩ ⟨R', m, none⟩ (.int .i64 (rest + x)) (by simp [hne4])).trans cR'
                        have hs1 := hide (((HR4.out.store m (rest + x)).far (p := ⟨R', m, none⟩) hne4 (.int .i64 ((j : Int) + 1))).congr (f' := fun v => if v < m then tc l (C1 + 1) v else if v = m then rest + x else 0) (fun v _ => by
                          by_cases h : v = m
                          · subst h; simp
                          · simp only [if_neg h]))
                        have hs2 := hide (((HR4'.out.far (p := ⟨R, m, none⟩) (Ne.symm hne4) (.int .i64 (rest + x))).store m ((j : Int) + 1)).congr (f' := fun v => if v < m then (tl l (C1 + 1) v : Int) else if v = m then ((j + 1 : Nat) : Int) else 0) (fun v _ => by
                          by_cases h : v = m
                          · subst h; simp
                          · simp only [if_neg h]))
                        have hs3 := hide ((hbm4.setCell (show H1 ≤ (⟨R, m, none⟩ : Addr).block from HH1.out.1) (.int .i64 (rest + x))).setCell (show H1 ≤ (⟨R', m, none⟩ : Addr).block from HH1.out.2.1) (.int .i64 ((j : Int) + 1)))
                        clear HR4 HR4'
                        go_region
                        all_goals
                          clear b0 b1 b2 b3 b4 b5 b6 b7 s3
                          go_wp2_with fail
                          go_roundw
                          case rel => first | exact ⟨j + 1, by go_num, fun h => (by cases h), by have := HU.out; omega, by rw [Nat.add_sub_cancel, hE.out]; exact hs1.out, by rw [Nat.add_sub_cancel, hE.out]; exact hs2.out, below_drew2 hs3.out⟩ | ((repeat apply Exists.intro); exact ⟨⟨j + 1, by go_num, fun h => (by cases h), by have := HU.out; omega, by rw [Nat.add_sub_cancel, hE.out]; exact hs1.out, by rw [Nat.add_sub_cancel, hE.out]; exact hs2.out, below_drew2 hs3.out⟩, rfl⟩)
                          case measure => simp [intOf]; omega
                      · have d1 : decide (p1 < 0) = false := by simp; omega
                        have d2 : decide (rest + x < p1) = false := by simp; omega
                        have hE := hide (show tm l (tc l C1) m (j + 1) = (p1, p2) by rw [HTM.out, if_neg (show ¬ rest < 0 by omega), if_neg (by omega)])
                        clear HTM HROWp HROWp'
                        go_wp2_with fail
                        go_roundw
                        case rel => first | exact ⟨j + 1, by go_num, fun h => (by cases h), by have := HU.out; omega, by rw [Nat.add_sub_cancel, hE.out]; exact HR4.out, by rw [Nat.add_sub_cancel, hE.out]; exact HR4'.out, hbm4⟩ | ((repeat apply Exists.intro); exact ⟨⟨j + 1, by go_num, fun h => (by cases h), by have := HU.out; omega, by rw [Nat.add_sub_cancel, hE.out]; exact HR4.out, by rw [Nat.add_sub_cancel, hE.out]; exact HR4'.out, hbm4⟩, rfl⟩)
                        case measure => simp [intOf]; omega
                  · obtain rfl : j = m := by omega
                    have hr1 := hide (HROW.out.congr (f' := fun v => if v < j + 1 then tc l (C1 + 1) v else 0) (fun v _ => by
                      by_cases h : v < j
                      · rw [if_pos h, if_pos (by omega)]
                      · rw [if_neg h]
                        by_cases h2 : v = j
                        · subst h2
                          rw [if_pos rfl, if_pos (by omega)]
                          simp only [tc]; rw [if_neg (by omega)]
                        · rw [if_neg h2, if_neg (by omega)]))
                    have hr2 := hide (HROW'.out.congr (f' := fun v => if v < j + 1 then (tl l (C1 + 1) v : Int) else 0) (fun v _ => by
                      by_cases h : v < j
                      · rw [if_pos h, if_pos (by omega)]
                      · rw [if_neg h]
                        by_cases h2 : v = j
                        · subst h2
                          rw [if_pos rfl, if_pos (by omega)]
                          simp only [tl]; rw [if_neg (by omega)]
                        · rw [if_neg h2, if_neg (by omega)]))
                    go_wp2_with fail
                    go_roundw
                    case rel => exact ⟨j + 1, by omega, by omega, by go_num, hr1.out, hr2.out, hbm⟩
                    case measure => simp [intOf]; omega
            · obtain rfl : m = n + 1 := by omega
              have m1 : ((n + 1 : Nat) : Int) = (n : Int) + 1 := by omega
              have hfull := hide (HT2.out.full (by rw [if_pos rfl]; have := HH1.out; omega) (by rw [if_pos rfl]; have := HH1.out; omega) (by rw [if_pos rfl]; exact HROW.out.congr (fun v hv => by rw [if_pos (by omega)])) (by rw [if_pos rfl]; exact HROW'.out.congr (fun v hv => by rw [if_pos (by omega)])))
              have hbf := hide (hbW.trans (hbm.mono (show w.heap.size ≤ H1 by have := HH1.out; omega)))
              have hszf := hide (show w.heap.size + 2 ≤ W2.heap.size by have := hbm.size; have := HROW.out.2.2; have := HH1.out; omega)
              clear hrow hrow' HROW HROW' HT2
              go_wp2_with fail
              go_roundw
              case rel => exact ⟨C + 1, _, _, by omega, by go_num, hfull.out, hbf.out, hszf.out⟩
              case measure => simp [intOf]; omega
      · obtain rfl : C = K + 1 := by omega
        go_wp2_with fail
        go_ret2
        exact ⟨_, _, _, _, _, rfl, HTB.out, hbel⟩
end Go.Proofs.Ytalecppofemcnaa
