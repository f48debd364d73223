/-
  The law PeopleTurns holds: whatever the passengers, the number and the span, the call returns true and turns nothing. No condition.
-/
import Derived.Test.YtkgkilogjodccaaRows
import Derived.Test.YtkgkilogjodccaaFrame
import Derived.Test.YtkgkilogjodccaaPeople2
namespace Go.Proofs.Ytkgkilogjodccaa
open Go.ChangeShapes Go.WideShapes Go.ChangeAt Go.RowKit HB PeopleP
set_option linter.unusedVariables false
set_option linter.unusedSimpArgs false

theorem pa_one1 (x : Pa) : ∀ u ∈ pa x, u.oneCell' = true := by
  intro u hu
  simp at hu
  rcases hu with rfl | rfl | rfl | rfl <;> rfl
/-- four rows of the call's own, no two in one block -/
def Rows4 (w : World) (base : Nat) (a b c d : Value) (la lb lc ld : List Pa) : Prop :=
  (Own w base 68 4 pa a la ∧ Own w base 68 4 pa b lb ∧ Own w base 68 4 pa c lc ∧ Own w base 68 4 pa d ld) ∧ Dj a b ∧ Dj a c ∧ Dj a d ∧ Dj b c ∧ Dj b d ∧ Dj c d
section
variable {w w' : World} {base : Nat} {a b c d a' : Value} {la lb lc ld la' : List Pa}
theorem Rows4.rot (h : Rows4 w base a b c d la lb lc ld) : Rows4 w base b c d a lb lc ld la := by
  obtain ⟨⟨h1, h2, h3, h4⟩, d1, d2, d3, d4, d5, d6⟩ := h
  exact ⟨⟨h2, h3, h4, h1⟩, d4, d5, d1.symm, d6, d2.symm, d3.symm⟩
theorem Rows4.alloc (h : Rows4 w base a b c d la lb lc ld) (o : Obj) : Rows4 (w.alloc o) base a b c d la lb lc ld := by
  obtain ⟨⟨h1, h2, h3, h4⟩, hd⟩ := h
  exact ⟨⟨h1.alloc o, h2.alloc o, h3.alloc o, h4.alloc o⟩, hd⟩
theorem Rows4.step (h : Rows4 w base a b c d la lb lc ld) (ho : Own w' base 68 4 pa a' la') (hg : w.grownBy w' a.ownBlock) (hb : a'.ownBlock = a.ownBlock ∨ a'.ownBlock = some w.heap.size) : Rows4 w' base a' b c d la' lb lc ld := by
  obtain ⟨⟨h1, h2, h3, h4⟩, d1, d2, d3, d4, d5, d6⟩ := h
  exact ⟨⟨ho, h2.grown hg d1, h3.grown hg d2, h4.grown hg d3⟩, Dj.next h2 d1 hb, Dj.next h3 d2 hb, Dj.next h4 d3 hb, d4, d5, d6⟩
theorem Rows4.far (h : Rows4 w base a b c d la lb lc ld) : a.ownBlock ≠ some w.heap.size := by
  intro hk
  have := (h.1.1.row.lt _ hk).2
  omega
end
/-- a passenger in a box -/
def Box4 (w : World) (g : Nat) (x : Pa) : Prop := (w.cell? ⟨g, 0, none⟩ = some (.int .i64 x.id) ∧ w.cell? ⟨g, 1, none⟩ = some (.int .i64 x.tick) ∧ w.cell? ⟨g, 2, none⟩ = some (.int .i64 x.fr) ∧ w.cell? ⟨g, 3, none⟩ = some (.int .i64 x.to)) ∧ g < w.heap.size
theorem Box4.new (w : World) (e : TypeId) (x : Pa) : Box4 (w.alloc (.cells #[.int .i64 x.id, .int .i64 x.tick, .int .i64 x.fr, .int .i64 x.to] e)) w.heap.size x := ⟨⟨by simp [go_sem], by simp [go_sem], by simp [go_sem], by simp [go_sem]⟩, by simp⟩
theorem Box4.alloc {w : World} {g : Nat} {x : Pa} (h : Box4 w g x) (o : Obj) : Box4 (w.alloc o) g x := by
  obtain ⟨⟨h0, h1, h2, h3⟩, hz⟩ := h
  have hb : Below w.heap.size w (w.alloc o) := (Below.refl _ _).alloc (Nat.le_refl _) o
  exact ⟨⟨hold1 hb h0, hold1 hb h1, hold1 hb h2, hold1 hb h3⟩, by simp; omega⟩
theorem Box4.grown {w w' : World} {g : Nat} {x : Pa} {row : Option Nat} (h : Box4 w g x) (hg : w.grownBy w' row) (hne : row ≠ some g) : Box4 w' g x := by
  obtain ⟨⟨h0, h1, h2, h3⟩, hz⟩ := h
  have key : ∀ j, w'.cell? ⟨g, j, none⟩ = w.cell? ⟨g, j, none⟩ := fun j => World.cell?_of_block (a := ⟨g, j, none⟩) (hg.block g hz (fun e => hne e.symm))
  exact ⟨⟨(key _).trans h0, (key _).trans h1, (key _).trans h2, (key _).trans h3⟩, Nat.lt_of_lt_of_le hz hg.size⟩
def Turns.In (l : List Pa) (n : Nat) (N s0 s1 : Int) (w : World) (a b c d u i : Value) (wr : World) : Prop :=
  ∃ q : Nat, q ≤ n ∧ i = .int .i64 q ∧ u = .int .i64 (ups (l.take q)) ∧ Rows4 wr (w.heap.size + 1) a b c d (all (later N) (l.take q)) (all (mirror N) (l.take q)) (all back (l.take q)) (all setId (inside s0 s1 (l.take q))) ∧
    Below w.heap.size w wr ∧ w.heap.size + 1 ≤ wr.heap.size ∧ wr.cell? ⟨w.heap.size, 0, none⟩ = some (.int .i64 s0) ∧ wr.cell? ⟨w.heap.size, 1, none⟩ = some (.int .i64 s1)
set_option maxRecDepth 100000 in
set_option maxHeartbeats 16000000 in
theorem turns_main (A : Option Addr) (n c : Nat) (l : List Pa) (N s0 s1 : Int) (w : World) (hr : Rd w w.heap.size 4 A n (l.flatMap pa)) (hl : l.length = n) (h1 : -1099511627776 ≤ N) (h2 : N ≤ 1099511627776) :
    Calls Try.prog 12 #[.slice A n c, .int .i64 N, .agg #[.int .i64 s0, .int .i64 s1]] w fun e w' => e = .returned (.bool true) ∧ Below w.heap.size w w' := by
  have Hl := hide hl
  have HR := hide hr
  have hg0 := hide (great62 A n c w.heap.size l (w.alloc (.cells #[.int .i64 s0, .int .i64 s1] 65)) (hr.alloc (Nat.le_refl _) _) (by simp) hl)
  clear hl hr
  go_enter Try.func12, Try.ntmps12
  go_wp2_with fail
  refine (hg0.out).mono ?_; rintro e w0 ⟨b, rfl, hb, hb0⟩
  have hbel0 := (show Below w.heap.size w _ from (Below.refl _ _).alloc (Nat.le_refl _) _).trans (hb0.mono (by simp))
  cases b with
  | true =>
    clear hb
    go_wp2_with fail
    go_ret
    exact ⟨rfl, hbel0⟩
  | false =>
    obtain ⟨hn, hfine⟩ := hb rfl
    have HF := hide hfine
    have k0 := hold1 hb0 (p := ⟨w.heap.size, 0, none⟩) (v := .int .i64 s0) (by simp [go_sem])
    have k1 := hold1 hb0 (p := ⟨w.heap.size, 1, none⟩) (v := .int .i64 s1) (by simp [go_sem])
    have hz0 := hb0.size
    simp at hz0
    have K0 := hide k0
    have K1 := hide k1
    clear hb hfine k0 k1 hb0
    go_wp2_with fail
    go_loopw [7, 8, 9, 10, 11, 12] (fun a b c d u i wr => Turns.In l n N s0 s1 w a b c d u i wr) (fun _ _ _ _ _ i _ => n - (intOf i).toNat)
    case atStart => exact ⟨0, Nat.zero_le _, rfl, rfl, ⟨⟨Own.nil _ _ _ _ _, Own.nil _ _ _ _ _, Own.nil _ _ _ _ _, Own.nil _ _ _ _ _⟩, Dj.nil _ _ _, Dj.nil _ _ _, Dj.nil _ _ _, Dj.nil _ _ _, Dj.nil _ _ _, Dj.nil _ _ _⟩, hbel0, hz0, K0.out, K1.out⟩
    case round =>
      clear K0 K1 hz0 hbel0
      obtain ⟨q, hq, rfl, rfl, hrows, hbel, hz, k0, k1⟩ := hrel
      have HRW := hide hrows
      have K0 := hide k0
      have K1 := hide k1
      have hrg := ups_range (l.take q)
      have hlq : (l.take q).length ≤ 100 := by rw [List.length_take]; omega
      by_cases hlt : q < n
      · obtain ⟨b1, off, x, rfl, hb1', hg, c0, c1, c2, c3⟩ := (HR.out.below hbel).pa_at Hl.out hlt
        obtain ⟨p1, p2, p3, p4, p5, p6, p7, p8⟩ := HF.out x (List.mem_of_getElem? hg)
        have hdl := all_length setId (inside s0 s1 (l.take q))
        have hil := inside_length s0 s1 (l.take q)
        obtain ⟨A4, c4, hv4, hc4, -⟩ := hrows.1.2.2.2.shape
        obtain ⟨m4, hm4⟩ : ∃ m4, m4 = (inside s0 s1 (l.take q)).length := ⟨_, rfl⟩
        rw [hdl, ← hm4] at hv4
        subst hv4
        have hLa : (all (later N) (l.take q)).length ≤ 1000000000 := by rw [all_length]; omega
        have hLb : (all (mirror N) (l.take q)).length ≤ 1000000000 := by rw [all_length]; omega
        have hLc : (all back (l.take q)).length ≤ 1000000000 := by rw [all_length]; omega
        have hLd : (all setId (inside s0 s1 (l.take q))).length ≤ 1000000000 := by rw [hdl]; omega
        have hE1 := hide (all_next (f := later N) hg)
        have hE2 := hide (all_next (f := mirror N) hg)
        have hE3 := hide (all_next (f := back) hg)
        have hIy := hide (fun (h : s0 ≤ x.tick ∧ x.tick < s1) => (show all setId (inside s0 s1 (l.take (q + 1))) = all setId (inside s0 s1 (l.take q)) ++ [setId m4 x] by rw [inside_yes hg h, all_snoc, ← hm4]))
        have hIn := hide (fun (h : ¬ (s0 ≤ x.tick ∧ x.tick < s1)) => (show all setId (inside s0 s1 (l.take (q + 1))) = all setId (inside s0 s1 (l.take q)) by rw [inside_no hg h]))
        have hup := hide (ups_next hg)
        have HM4 := hide hm4
        have hm4l : m4 ≤ 100 := by omega
        have hsz := sizes (show w.heap.size < wr.heap.size by omega)
        have u1 := hrg.1
        have u2 : ups (l.take q) ≤ 100 := by omega
        clear hdl hil hm4 hg hrg hrows k0 k1
        generalize ups (l.take q) = u at *
        rcases (show x.fr < x.to ∨ x.to ≤ x.fr by omega) with hud | hud
        · have hU := hide (show ups (l.take (q + 1)) = u + 1 by rw [hup.out, if_pos hud])
          clear hup
          rcases (show x.tick < s0 ∨ (s0 ≤ x.tick ∧ s1 ≤ x.tick) ∨ (s0 ≤ x.tick ∧ x.tick < s1) by omega) with h | ⟨h, h'⟩ | ⟨h, h'⟩
          · have d1 : decide (s0 ≤ x.tick) = false := by simp; omega
            have hE4 := hide (hIn.out (by omega))
            go_wp2_with (first
              | (at_builtin; refine push2 rfl _ _ 63 rfl Try.underlying63 People.info rfl (by omega) (by omega) rfl ((HRW.out.alloc _).alloc _).1.1 (later N q x) ⟨_, 0, none⟩ 1 rfl rfl (cells_new _ _ (pa (later N q x)) _ (by simp)) (pa_one1 _) hLa (by go_size) ?_; intro v1 w1 ho1 hb1 hgr1 hblk1; have HRW1 := hide (((HRW.out.alloc _).alloc _).step ho1 hgr1 hblk1).rot; have HBX1 := hide (((Box4.new wr 68 x).alloc _).grown hgr1 HRW.out.far); have BB1 := (((Below.refl _ _).alloc (by omega) _).alloc (by simp; omega) _).trans hb1; have SZ1 := BB1.size; obtain ⟨⟨m10, m11, m12, m13⟩, m14⟩ := HBX1.out; have q01 := (BB1.cell (p := ⟨w.heap.size, 0, none⟩) (show w.heap.size < _ by omega)).trans K0.out; have q11 := (BB1.cell (p := ⟨w.heap.size, 1, none⟩) (show w.heap.size < _ by omega)).trans K1.out; have nz1 := sizes (show w.heap.size < w1.heap.size by omega); clear ho1 hb1 hgr1 hblk1)
              | (at_builtin; refine push2 rfl _ _ 63 rfl Try.underlying63 People.info rfl (by omega) (by omega) rfl (HRW1.out.alloc _).1.1 (mirror N q x) ⟨_, 0, none⟩ 1 rfl rfl (cells_new _ _ (pa (mirror N q x)) _ (by simp)) (pa_one1 _) hLb (by go_size) ?_; intro v2 w2 ho2 hb2 hgr2 hblk2; have HRW2 := hide ((HRW1.out.alloc _).step ho2 hgr2 hblk2).rot; have HBX2 := hide ((HBX1.out.alloc _).grown hgr2 HRW.out.rot.far); have BB2 := (BB1.alloc (by omega) _).trans hb2; have SZ2 := BB2.size; obtain ⟨⟨m20, m21, m22, m23⟩, m24⟩ := HBX2.out; have q02 := (BB2.cell (p := ⟨w.heap.size, 0, none⟩) (show w.heap.size < _ by omega)).trans K0.out; have q12 := (BB2.cell (p := ⟨w.heap.size, 1, none⟩) (show w.heap.size < _ by omega)).trans K1.out; have nz2 := sizes (show w.heap.size < w2.heap.size by omega); clear ho2 hb2 hgr2 hblk2)
              | (at_builtin; refine push2 rfl _ _ 63 rfl Try.underlying63 People.info rfl (by omega) (by omega) rfl (HRW2.out.alloc _).1.1 (back q x) ⟨_, 0, none⟩ 1 rfl rfl (cells_new _ _ (pa (back q x)) _ (by simp)) (pa_one1 _) hLc (by go_size) ?_; intro v3 w3 ho3 hb3 hgr3 hblk3; have HRW3 := hide ((HRW2.out.alloc _).step ho3 hgr3 hblk3).rot; have HBX3 := hide ((HBX2.out.alloc _).grown hgr3 HRW.out.rot.rot.far); have BB3 := (BB2.alloc (by omega) _).trans hb3; have SZ3 := BB3.size; obtain ⟨⟨m30, m31, m32, m33⟩, m34⟩ := HBX3.out; have q03 := (BB3.cell (p := ⟨w.heap.size, 0, none⟩) (show w.heap.size < _ by omega)).trans K0.out; have q13 := (BB3.cell (p := ⟨w.heap.size, 1, none⟩) (show w.heap.size < _ by omega)).trans K1.out; have nz3 := sizes (show w.heap.size < w3.heap.size by omega); clear ho3 hb3 hgr3 hblk3))
            go_roundw
            case rel => exact ⟨q + 1, by omega, by go_num, by rw [hU.out], by rw [hE1.out, hE2.out, hE3.out, hE4.out]; exact HRW3.out.rot, hbel.trans (BB3.mono (by omega)), by omega, q03, q13⟩
            case measure => simp [intOf]; omega
          · have d1 : decide (s0 ≤ x.tick) = true := by simp; omega
            have d2 : decide (x.tick < s1) = false := by simp; omega
            have hE4 := hide (hIn.out (by omega))
            go_wp2_with (first
              | (at_builtin; refine push2 rfl _ _ 63 rfl Try.underlying63 People.info rfl (by omega) (by omega) rfl ((HRW.out.alloc _).alloc _).1.1 (later N q x) ⟨_, 0, none⟩ 1 rfl rfl (cells_new _ _ (pa (later N q x)) _ (by simp)) (pa_one1 _) hLa (by go_size) ?_; intro v1 w1 ho1 hb1 hgr1 hblk1; have HRW1 := hide (((HRW.out.alloc _).alloc _).step ho1 hgr1 hblk1).rot; have HBX1 := hide (((Box4.new wr 68 x).alloc _).grown hgr1 HRW.out.far); have BB1 := (((Below.refl _ _).alloc (by omega) _).alloc (by simp; omega) _).trans hb1; have SZ1 := BB1.size; obtain ⟨⟨m10, m11, m12, m13⟩, m14⟩ := HBX1.out; have q01 := (BB1.cell (p := ⟨w.heap.size, 0, none⟩) (show w.heap.size < _ by omega)).trans K0.out; have q11 := (BB1.cell (p := ⟨w.heap.size, 1, none⟩) (show w.heap.size < _ by omega)).trans K1.out; have nz1 := sizes (show w.heap.size < w1.heap.size by omega); clear ho1 hb1 hgr1 hblk1)
              | (at_builtin; refine push2 rfl _ _ 63 rfl Try.underlying63 People.info rfl (by omega) (by omega) rfl (HRW1.out.alloc _).1.1 (mirror N q x) ⟨_, 0, none⟩ 1 rfl rfl (cells_new _ _ (pa (mirror N q x)) _ (by simp)) (pa_one1 _) hLb (by go_size) ?_; intro v2 w2 ho2 hb2 hgr2 hblk2; have HRW2 := hide ((HRW1.out.alloc _).step ho2 hgr2 hblk2).rot; have HBX2 := hide ((HBX1.out.alloc _).grown hgr2 HRW.out.rot.far); have BB2 := (BB1.alloc (by omega) _).trans hb2; have SZ2 := BB2.size; obtain ⟨⟨m20, m21, m22, m23⟩, m24⟩ := HBX2.out; have q02 := (BB2.cell (p := ⟨w.heap.size, 0, none⟩) (show w.heap.size < _ by omega)).trans K0.out; have q12 := (BB2.cell (p := ⟨w.heap.size, 1, none⟩) (show w.heap.size < _ by omega)).trans K1.out; have nz2 := sizes (show w.heap.size < w2.heap.size by omega); clear ho2 hb2 hgr2 hblk2)
              | (at_builtin; refine push2 rfl _ _ 63 rfl Try.underlying63 People.info rfl (by omega) (by omega) rfl (HRW2.out.alloc _).1.1 (back q x) ⟨_, 0, none⟩ 1 rfl rfl (cells_new _ _ (pa (back q x)) _ (by simp)) (pa_one1 _) hLc (by go_size) ?_; intro v3 w3 ho3 hb3 hgr3 hblk3; have HRW3 := hide ((HRW2.out.alloc _).step ho3 hgr3 hblk3).rot; have HBX3 := hide ((HBX2.out.alloc _).grown hgr3 HRW.out.rot.rot.far); have BB3 := (BB2.alloc (by omega) _).trans hb3; have SZ3 := BB3.size; obtain ⟨⟨m30, m31, m32, m33⟩, m34⟩ := HBX3.out; have q03 := (BB3.cell (p := ⟨w.heap.size, 0, none⟩) (show w.heap.size < _ by omega)).trans K0.out; have q13 := (BB3.cell (p := ⟨w.heap.size, 1, none⟩) (show w.heap.size < _ by omega)).trans K1.out; have nz3 := sizes (show w.heap.size < w3.heap.size by omega); clear ho3 hb3 hgr3 hblk3))
            go_roundw
            case rel => exact ⟨q + 1, by omega, by go_num, by rw [hU.out], by rw [hE1.out, hE2.out, hE3.out, hE4.out]; exact HRW3.out.rot, hbel.trans (BB3.mono (by omega)), by omega, q03, q13⟩
            case measure => simp [intOf]; omega
          · have d1 : decide (s0 ≤ x.tick) = true := by simp; omega
            have d2 : decide (x.tick < s1) = true := by simp; omega
            have hE4 := hide (hIy.out ⟨h, h'⟩)
            go_wp2_with (first
              | (at_builtin; refine push2 rfl _ _ 63 rfl Try.underlying63 People.info rfl (by omega) (by omega) rfl ((HRW.out.alloc _).alloc _).1.1 (later N q x) ⟨_, 0, none⟩ 1 rfl rfl (cells_new _ _ (pa (later N q x)) _ (by simp)) (pa_one1 _) hLa (by go_size) ?_; intro v1 w1 ho1 hb1 hgr1 hblk1; have HRW1 := hide (((HRW.out.alloc _).alloc _).step ho1 hgr1 hblk1).rot; have HBX1 := hide (((Box4.new wr 68 x).alloc _).grown hgr1 HRW.out.far); have BB1 := (((Below.refl _ _).alloc (by omega) _).alloc (by simp; omega) _).trans hb1; have SZ1 := BB1.size; obtain ⟨⟨m10, m11, m12, m13⟩, m14⟩ := HBX1.out; have q01 := (BB1.cell (p := ⟨w.heap.size, 0, none⟩) (show w.heap.size < _ by omega)).trans K0.out; have q11 := (BB1.cell (p := ⟨w.heap.size, 1, none⟩) (show w.heap.size < _ by omega)).trans K1.out; have nz1 := sizes (show w.heap.size < w1.heap.size by omega); clear ho1 hb1 hgr1 hblk1)
              | (at_builtin; refine push2 rfl _ _ 63 rfl Try.underlying63 People.info rfl (by omega) (by omega) rfl (HRW1.out.alloc _).1.1 (mirror N q x) ⟨_, 0, none⟩ 1 rfl rfl (cells_new _ _ (pa (mirror N q x)) _ (by simp)) (pa_one1 _) hLb (by go_size) ?_; intro v2 w2 ho2 hb2 hgr2 hblk2; have HRW2 := hide ((HRW1.out.alloc _).step ho2 hgr2 hblk2).rot; have HBX2 := hide ((HBX1.out.alloc _).grown hgr2 HRW.out.rot.far); have BB2 := (BB1.alloc (by omega) _).trans hb2; have SZ2 := BB2.size; obtain ⟨⟨m20, m21, m22, m23⟩, m24⟩ := HBX2.out; have q02 := (BB2.cell (p := ⟨w.heap.size, 0, none⟩) (show w.heap.size < _ by omega)).trans K0.out; have q12 := (BB2.cell (p := ⟨w.heap.size, 1, none⟩) (show w.heap.size < _ by omega)).trans K1.out; have nz2 := sizes (show w.heap.size < w2.heap.size by omega); clear ho2 hb2 hgr2 hblk2)
              | (at_builtin; refine push2 rfl _ _ 63 rfl Try.underlying63 People.info rfl (by omega) (by omega) rfl (HRW2.out.alloc _).1.1 (back q x) ⟨_, 0, none⟩ 1 rfl rfl (cells_new _ _ (pa (back q x)) _ (by simp)) (pa_one1 _) hLc (by go_size) ?_; intro v3 w3 ho3 hb3 hgr3 hblk3; have HRW3 := hide ((HRW2.out.alloc _).step ho3 hgr3 hblk3).rot; have HBX3 := hide ((HBX2.out.alloc _).grown hgr3 HRW.out.rot.rot.far); have BB3 := (BB2.alloc (by omega) _).trans hb3; have SZ3 := BB3.size; obtain ⟨⟨m30, m31, m32, m33⟩, m34⟩ := HBX3.out; have q03 := (BB3.cell (p := ⟨w.heap.size, 0, none⟩) (show w.heap.size < _ by omega)).trans K0.out; have q13 := (BB3.cell (p := ⟨w.heap.size, 1, none⟩) (show w.heap.size < _ by omega)).trans K1.out; have nz3 := sizes (show w.heap.size < w3.heap.size by omega); clear ho3 hb3 hgr3 hblk3)
              | (at_builtin; refine push2 rfl _ _ 63 rfl Try.underlying63 People.info rfl (by omega) (by omega) rfl (HRW3.out.alloc _).1.1 (setId m4 x) ⟨_, 0, none⟩ 1 rfl rfl (cells_new _ _ (pa (setId m4 x)) _ (by simp)) (pa_one1 _) hLd (by go_size) ?_; intro v4 w4 ho4 hb4 hgr4 hblk4; have HRW4 := hide ((HRW3.out.alloc _).step ho4 hgr4 hblk4).rot; have HBX4 := hide ((HBX3.out.alloc _).grown hgr4 HRW.out.rot.rot.rot.far); have BB4 := (BB3.alloc (by omega) _).trans hb4; have SZ4 := BB4.size; obtain ⟨⟨m40, m41, m42, m43⟩, m44⟩ := HBX4.out; have q04 := (BB4.cell (p := ⟨w.heap.size, 0, none⟩) (show w.heap.size < _ by omega)).trans K0.out; have q14 := (BB4.cell (p := ⟨w.heap.size, 1, none⟩) (show w.heap.size < _ by omega)).trans K1.out; have nz4 := sizes (show w.heap.size < w4.heap.size by omega); clear ho4 hb4 hgr4 hblk4))
            go_roundw
            case rel => exact ⟨q + 1, by omega, by go_num, by rw [hU.out], by rw [hE1.out, hE2.out, hE3.out, hE4.out]; exact HRW4.out, hbel.trans (BB4.mono (by omega)), by omega, q04, q14⟩
            case measure => simp [intOf]; omega
        · have hU := hide (show ups (l.take (q + 1)) = u by rw [hup.out, if_neg (by omega)]; omega)
          clear hup
          rcases (show x.tick < s0 ∨ (s0 ≤ x.tick ∧ s1 ≤ x.tick) ∨ (s0 ≤ x.tick ∧ x.tick < s1) by omega) with h | ⟨h, h'⟩ | ⟨h, h'⟩
          · have d1 : decide (s0 ≤ x.tick) = false := by simp; omega
            have hE4 := hide (hIn.out (by omega))
            go_wp2_with (first
              | (at_builtin; refine push2 rfl _ _ 63 rfl Try.underlying63 People.info rfl (by omega) (by omega) rfl ((HRW.out.alloc _).alloc _).1.1 (later N q x) ⟨_, 0, none⟩ 1 rfl rfl (cells_new _ _ (pa (later N q x)) _ (by simp)) (pa_one1 _) hLa (by go_size) ?_; intro v1 w1 ho1 hb1 hgr1 hblk1; have HRW1 := hide (((HRW.out.alloc _).alloc _).step ho1 hgr1 hblk1).rot; have HBX1 := hide (((Box4.new wr 68 x).alloc _).grown hgr1 HRW.out.far); have BB1 := (((Below.refl _ _).alloc (by omega) _).alloc (by simp; omega) _).trans hb1; have SZ1 := BB1.size; obtain ⟨⟨m10, m11, m12, m13⟩, m14⟩ := HBX1.out; have q01 := (BB1.cell (p := ⟨w.heap.size, 0, none⟩) (show w.heap.size < _ by omega)).trans K0.out; have q11 := (BB1.cell (p := ⟨w.heap.size, 1, none⟩) (show w.heap.size < _ by omega)).trans K1.out; have nz1 := sizes (show w.heap.size < w1.heap.size by omega); clear ho1 hb1 hgr1 hblk1)
              | (at_builtin; refine push2 rfl _ _ 63 rfl Try.underlying63 People.info rfl (by omega) (by omega) rfl (HRW1.out.alloc _).1.1 (mirror N q x) ⟨_, 0, none⟩ 1 rfl rfl (cells_new _ _ (pa (mirror N q x)) _ (by simp)) (pa_one1 _) hLb (by go_size) ?_; intro v2 w2 ho2 hb2 hgr2 hblk2; have HRW2 := hide ((HRW1.out.alloc _).step ho2 hgr2 hblk2).rot; have HBX2 := hide ((HBX1.out.alloc _).grown hgr2 HRW.out.rot.far); have BB2 := (BB1.alloc (by omega) _).trans hb2; have SZ2 := BB2.size; obtain ⟨⟨m20, m21, m22, m23⟩, m24⟩ := HBX2.out; have q02 := (BB2.cell (p := ⟨w.heap.size, 0, none⟩) (show w.heap.size < _ by omega)).trans K0.out; have q12 := (BB2.cell (p := ⟨w.heap.size, 1, none⟩) (show w.heap.size < _ by omega)).trans K1.out; have nz2 := sizes (show w.heap.size < w2.heap.size by omega); clear ho2 hb2 hgr2 hblk2)
              | (at_builtin; refine push2 rfl _ _ 63 rfl Try.underlying63 People.info rfl (by omega) (by omega) rfl (HRW2.out.alloc _).1.1 (back q x) ⟨_, 0, none⟩ 1 rfl rfl (cells_new _ _ (pa (back q x)) _ (by simp)) (pa_one1 _) hLc (by go_size) ?_; intro v3 w3 ho3 hb3 hgr3 hblk3; have HRW3 := hide ((HRW2.out.alloc _).step ho3 hgr3 hblk3).rot; have HBX3 := hide ((HBX2.out.alloc _).grown hgr3 HRW.out.rot.rot.far); have BB3 := (BB2.alloc (by omega) _).trans hb3; have SZ3 := BB3.size; obtain ⟨⟨m30, m31, m32, m33⟩, m34⟩ := HBX3.out; have q03 := (BB3.cell (p := ⟨w.heap.size, 0, none⟩) (show w.heap.size < _ by omega)).trans K0.out; have q13 := (BB3.cell (p := ⟨w.heap.size, 1, none⟩) (show w.heap.size < _ by omega)).trans K1.out; have nz3 := sizes (show w.heap.size < w3.heap.size by omega); clear ho3 hb3 hgr3 hblk3))
            go_roundw
            case rel => exact ⟨q + 1, by omega, by go_num, by rw [hU.out], by rw [hE1.out, hE2.out, hE3.out, hE4.out]; exact HRW3.out.rot, hbel.trans (BB3.mono (by omega)), by omega, q03, q13⟩
            case measure => simp [intOf]; omega
          · have d1 : decide (s0 ≤ x.tick) = true := by simp; omega
            have d2 : decide (x.tick < s1) = false := by simp; omega
            have hE4 := hide (hIn.out (by omega))
            go_wp2_with (first
              | (at_builtin; refine push2 rfl _ _ 63 rfl Try.underlying63 People.info rfl (by omega) (by omega) rfl ((HRW.out.alloc _).alloc _).1.1 (later N q x) ⟨_, 0, none⟩ 1 rfl rfl (cells_new _ _ (pa (later N q x)) _ (by simp)) (pa_one1 _) hLa (by go_size) ?_; intro v1 w1 ho1 hb1 hgr1 hblk1; have HRW1 := hide (((HRW.out.alloc _).alloc _).step ho1 hgr1 hblk1).rot; have HBX1 := hide (((Box4.new wr 68 x).alloc _).grown hgr1 HRW.out.far); have BB1 := (((Below.refl _ _).alloc (by omega) _).alloc (by simp; omega) _).trans hb1; have SZ1 := BB1.size; obtain ⟨⟨m10, m11, m12, m13⟩, m14⟩ := HBX1.out; have q01 := (BB1.cell (p := ⟨w.heap.size, 0, none⟩) (show w.heap.size < _ by omega)).trans K0.out; have q11 := (BB1.cell (p := ⟨w.heap.size, 1, none⟩) (show w.heap.size < _ by omega)).trans K1.out; have nz1 := sizes (show w.heap.size < w1.heap.size by omega); clear ho1 hb1 hgr1 hblk1)
              | (at_builtin; refine push2 rfl _ _ 63 rfl Try.underlying63 People.info rfl (by omega) (by omega) rfl (HRW1.out.alloc _).1.1 (mirror N q x) ⟨_, 0, none⟩ 1 rfl rfl (cells_new _ _ (pa (mirror N q x)) _ (by simp)) (pa_one1 _) hLb (by go_size) ?_; intro v2 w2 ho2 hb2 hgr2 hblk2; have HRW2 := hide ((HRW1.out.alloc _).step ho2 hgr2 hblk2).rot; have HBX2 := hide ((HBX1.out.alloc _).grown hgr2 HRW.out.rot.far); have BB2 := (BB1.alloc (by omega) _).trans hb2; have SZ2 := BB2.size; obtain ⟨⟨m20, m21, m22, m23⟩, m24⟩ := HBX2.out; have q02 := (BB2.cell (p := ⟨w.heap.size, 0, none⟩) (show w.heap.size < _ by omega)).trans K0.out; have q12 := (BB2.cell (p := ⟨w.heap.size, 1, none⟩) (show w.heap.size < _ by omega)).trans K1.out; have nz2 := sizes (show w.heap.size < w2.heap.size by omega); clear ho2 hb2 hgr2 hblk2)
              | (at_builtin; refine push2 rfl _ _ 63 rfl Try.underlying63 People.info rfl (by omega) (by omega) rfl (HRW2.out.alloc _).1.1 (back q x) ⟨_, 0, none⟩ 1 rfl rfl (cells_new _ _ (pa (back q x)) _ (by simp)) (pa_one1 _) hLc (by go_size) ?_; intro v3 w3 ho3 hb3 hgr3 hblk3; have HRW3 := hide ((HRW2.out.alloc _).step ho3 hgr3 hblk3).rot; have HBX3 := hide ((HBX2.out.alloc _).grown hgr3 HRW.out.rot.rot.far); have BB3 := (BB2.alloc (by omega) _).trans hb3; have SZ3 := BB3.size; obtain ⟨⟨m30, m31, m32, m33⟩, m34⟩ := HBX3.out; have q03 := (BB3.cell (p := ⟨w.heap.size, 0, none⟩) (show w.heap.size < _ by omega)).trans K0.out; have q13 := (BB3.cell (p := ⟨w.heap.size, 1, none⟩) (show w.heap.size < _ by omega)).trans K1.out; have nz3 := sizes (show w.heap.size < w3.heap.size by omega); clear ho3 hb3 hgr3 hblk3))
            go_roundw
            case rel => exact ⟨q + 1, by omega, by go_num, by rw [hU.out], by rw [hE1.out, hE2.out, hE3.out, hE4.out]; exact HRW3.out.rot, hbel.trans (BB3.mono (by omega)), by omega, q03, q13⟩
            case measure => simp [intOf]; omega
          · have d1 : decide (s0 ≤ x.tick) = true := by simp; omega
            have d2 : decide (x.tick < s1) = true := by simp; omega
            have hE4 := hide (hIy.out ⟨h, h'⟩)
            go_wp2_with (first
              | (at_builtin; refine push2 rfl _ _ 63 rfl Try.underlying63 People.info rfl (by omega) (by omega) rfl ((HRW.out.alloc _).alloc _).1.1 (later N q x) ⟨_, 0, none⟩ 1 rfl rfl (cells_new _ _ (pa (later N q x)) _ (by simp)) (pa_one1 _) hLa (by go_size) ?_; intro v1 w1 ho1 hb1 hgr1 hblk1; have HRW1 := hide (((HRW.out.alloc _).alloc _).step ho1 hgr1 hblk1).rot; have HBX1 := hide (((Box4.new wr 68 x).alloc _).grown hgr1 HRW.out.far); have BB1 := (((Below.refl _ _).alloc (by omega) _).alloc (by simp; omega) _).trans hb1; have SZ1 := BB1.size; obtain ⟨⟨m10, m11, m12, m13⟩, m14⟩ := HBX1.out; have q01 := (BB1.cell (p := ⟨w.heap.size, 0, none⟩) (show w.heap.size < _ by omega)).trans K0.out; have q11 := (BB1.cell (p := ⟨w.heap.size, 1, none⟩) (show w.heap.size < _ by omega)).trans K1.out; have nz1 := sizes (show w.heap.size < w1.heap.size by omega); clear ho1 hb1 hgr1 hblk1)
              | (at_builtin; refine push2 rfl _ _ 63 rfl Try.underlying63 People.info rfl (by omega) (by omega) rfl (HRW1.out.alloc _).1.1 (mirror N q x) ⟨_, 0, none⟩ 1 rfl rfl (cells_new _ _ (pa (mirror N q x)) _ (by simp)) (pa_one1 _) hLb (by go_size) ?_; intro v2 w2 ho2 hb2 hgr2 hblk2; have HRW2 := hide ((HRW1.out.alloc _).step ho2 hgr2 hblk2).rot; have HBX2 := hide ((HBX1.out.alloc _).grown hgr2 HRW.out.rot.far); have BB2 := (BB1.alloc (by omega) _).trans hb2; have SZ2 := BB2.size; obtain ⟨⟨m20, m21, m22, m23⟩, m24⟩ := HBX2.out; have q02 := (BB2.cell (p := ⟨w.heap.size, 0, none⟩) (show w.heap.size < _ by omega)).trans K0.out; have q12 := (BB2.cell (p := ⟨w.heap.size, 1, none⟩) (show w.heap.size < _ by omega)).trans K1.out; have nz2 := sizes (show w.heap.size < w2.heap.size by omega); clear ho2 hb2 hgr2 hblk2)
              | (at_builtin; refine push2 rfl _ _ 63 rfl Try.underlying63 People.info rfl (by omega) (by omega) rfl (HRW2.out.alloc _).1.1 (back q x) ⟨_, 0, none⟩ 1 rfl rfl (cells_new _ _ (pa (back q x)) _ (by simp)) (pa_one1 _) hLc (by go_size) ?_; intro v3 w3 ho3 hb3 hgr3 hblk3; have HRW3 := hide ((HRW2.out.alloc _).step ho3 hgr3 hblk3).rot; have HBX3 := hide ((HBX2.out.alloc _).grown hgr3 HRW.out.rot.rot.far); have BB3 := (BB2.alloc (by omega) _).trans hb3; have SZ3 := BB3.size; obtain ⟨⟨m30, m31, m32, m33⟩, m34⟩ := HBX3.out; have q03 := (BB3.cell (p := ⟨w.heap.size, 0, none⟩) (show w.heap.size < _ by omega)).trans K0.out; have q13 := (BB3.cell (p := ⟨w.heap.size, 1, none⟩) (show w.heap.size < _ by omega)).trans K1.out; have nz3 := sizes (show w.heap.size < w3.heap.size by omega); clear ho3 hb3 hgr3 hblk3)
              | (at_builtin; refine push2 rfl _ _ 63 rfl Try.underlying63 People.info rfl (by omega) (by omega) rfl (HRW3.out.alloc _).1.1 (setId m4 x) ⟨_, 0, none⟩ 1 rfl rfl (cells_new _ _ (pa (setId m4 x)) _ (by simp)) (pa_one1 _) hLd (by go_size) ?_; intro v4 w4 ho4 hb4 hgr4 hblk4; have HRW4 := hide ((HRW3.out.alloc _).step ho4 hgr4 hblk4).rot; have HBX4 := hide ((HBX3.out.alloc _).grown hgr4 HRW.out.rot.rot.rot.far); have BB4 := (BB3.alloc (by omega) _).trans hb4; have SZ4 := BB4.size; obtain ⟨⟨m40, m41, m42, m43⟩, m44⟩ := HBX4.out; have q04 := (BB4.cell (p := ⟨w.heap.size, 0, none⟩) (show w.heap.size < _ by omega)).trans K0.out; have q14 := (BB4.cell (p := ⟨w.heap.size, 1, none⟩) (show w.heap.size < _ by omega)).trans K1.out; have nz4 := sizes (show w.heap.size < w4.heap.size by omega); clear ho4 hb4 hgr4 hblk4))
            go_roundw
            case rel => exact ⟨q + 1, by omega, by go_num, by rw [hU.out], by rw [hE1.out, hE2.out, hE3.out, hE4.out]; exact HRW4.out, hbel.trans (BB4.mono (by omega)), by omega, q04, q14⟩
            case measure => simp [intOf]; omega
      · have he : l.take q = l := List.take_of_length_le (by rw [Hl.out]; omega)
        rw [he] at HRW hrg ⊢
        obtain ⟨⟨o1, o2, o3, o4⟩, -⟩ := HRW.out
        have x1 := o1.shape
        have x2 := o2.shape
        have x3 := o3.shape
        have x4 := o4.shape
        rw [all_length, Hl.out] at x1 x2 x3
        rw [all_length] at x4
        obtain ⟨A1, c1, rfl, hc1, r1⟩ := x1
        obtain ⟨A2, c2, rfl, hc2, r2⟩ := x2
        obtain ⟨A3, c3, rfl, hc3, r3⟩ := x3
        obtain ⟨A4, c4, rfl, hc4, r4⟩ := x4
        have R1 := hide r1
        have R2 := hide r2
        have R3 := hide r3
        have R4 := hide r4
        have hil := inside_length s0 s1 l
        rw [Hl.out] at hil
        have u1 := hrg.1
        have u2 : ups l ≤ 100 := by have := hrg.2; rw [Hl.out] at this; omega
        have HU := hide (fun (W : World) (hb : Below w.heap.size w W) => people_up A n c w.heap.size l W (HR.out.below hb) hb.size Hl.out hn)
        have hself : (ups l == ups l) = true := by simp
        have hself2 : ((n : Int) - ups l == (n : Int) - ups l) = true := by simp
        have hsz := sizes (show w.heap.size < wr.heap.size by omega)
        clear he hrg HRW o1 o2 o3 o4 r1 r2 r3 r4 hlq k0 k1
        generalize ups l = u at *
        go_wp2_with fail
        refine (HU.out _ hbel).mono ?_; rintro e w1 ⟨rfl, hb1⟩
        have hB1 := then_ hbel hb1 (Nat.le_refl _)
        go_wp2_with fail
        refine (people_later A n c w.heap.size l N _ (HR.out.below hB1) hB1.size Hl.out hn HF.out h1 h2).mono ?_; rintro e w2 ⟨⟨v2, rfl, hown2⟩, hb2⟩
        have y2 := hown2.shape
        rw [all_length, Hl.out] at y2
        obtain ⟨A12, c12, rfl, -, hrd2⟩ := y2
        have E2 := hide hrd2
        have hb12 := then_ hb1 hb2 (Nat.le_refl _)
        clear hown2 hrd2
        go_wp2_with fail
        refine (eqPa_same A12 A1 n c12 c1 _ _ _ _ E2.out (R1.out.below hb12) (by rw [all_length, Hl.out]) (by omega)).mono ?_; rintro e w3 ⟨rfl, m3, rfl⟩
        have hb13 := below_drewN hb12 m3
        have hB3 := then_ hbel hb13 (Nat.le_refl _)
        clear hb1 hb2 hB1 hb12
        go_wp2_with fail
        refine (people_mirror A n c w.heap.size l N _ (HR.out.below hB3) hB3.size Hl.out hn HF.out h1 h2).mono ?_; rintro e w4 ⟨⟨v4, rfl, hown4⟩, hb4⟩
        have y4 := hown4.shape
        rw [all_length, Hl.out] at y4
        obtain ⟨A14, c14, rfl, -, hrd4⟩ := y4
        have E4 := hide hrd4
        have hb14 := then_ hb13 hb4 (Nat.le_refl _)
        clear hown4 hrd4
        go_wp2_with fail
        refine (eqPa_same A14 A2 n c14 c2 _ _ _ _ E4.out (R2.out.below hb14) (by rw [all_length, Hl.out]) (by omega)).mono ?_; rintro e w5 ⟨rfl, m5, rfl⟩
        have hb15 := below_drewN hb14 m5
        have hB5 := then_ hbel hb15 (Nat.le_refl _)
        clear hb13 hb4 hB3 hb14
        go_wp2_with fail
        refine (people_back A n c w.heap.size l _ (HR.out.below hB5) hB5.size Hl.out hn).mono ?_; rintro e w6 ⟨⟨v6, rfl, hown6⟩, hb6⟩
        have y6 := hown6.shape
        rw [all_length, Hl.out] at y6
        obtain ⟨A16, c16, rfl, -, hrd6⟩ := y6
        have E6 := hide hrd6
        have hb16 := then_ hb15 hb6 (Nat.le_refl _)
        clear hown6 hrd6
        go_wp2_with fail
        refine (eqPa_same A16 A3 n c16 c3 _ _ _ _ E6.out (R3.out.below hb16) (by rw [all_length, Hl.out]) (by omega)).mono ?_; rintro e w7 ⟨rfl, m7, rfl⟩
        have hb17 := below_drewN hb16 m7
        have hB7 := then_ hbel hb17 (Nat.le_refl _)
        have z0 := (hb17.cell (p := ⟨w.heap.size, 0, none⟩) (show w.heap.size < _ by omega)).trans K0.out
        have z1 := (hb17.cell (p := ⟨w.heap.size, 1, none⟩) (show w.heap.size < _ by omega)).trans K1.out
        clear hb15 hb6 hB5 hb16
        go_wp2_with fail
        clear z0 z1
        refine (people_within A n c w.heap.size l s0 s1 _ (HR.out.below hB7) hB7.size Hl.out hn).mono ?_; rintro e w8 ⟨⟨v8, rfl, hown8⟩, hb8⟩
        have y8 := hown8.shape
        rw [all_length] at y8
        obtain ⟨A18, c18, rfl, -, hrd8⟩ := y8
        have E8 := hide hrd8
        have hb18 := then_ hb17 hb8 (Nat.le_refl _)
        clear hown8 hrd8
        go_wp2_with fail
        refine (eqPa_same A18 A4 _ c18 c4 _ _ _ _ E8.out (R4.out.below hb18) (by rw [all_length]) (by omega)).mono ?_; rintro e w9 ⟨rfl, m9, rfl⟩
        have hb19 := below_drewN hb18 m9
        have hB9 := then_ hbel hb19 (Nat.le_refl _)
        go_wp2_with (go_at_call 51; refine (people_alive _).mono ?_; rintro e w10 ⟨rfl, hb10⟩)
        go_ret
        exact ⟨rfl, then_ hB9 hb10 (Nat.le_refl _)⟩
set_option maxRecDepth 100000 in
set_option maxHeartbeats 2000000 in
theorem turns_far (A : Option Addr) (n c : Nat) (l : List Pa) (N s0 s1 : Int) (w : World) (hr : Rd w w.heap.size 4 A n (l.flatMap pa)) (hl : l.length = n) (h : N < -1099511627776 ∨ 1099511627776 < N) :
    Calls Try.prog 12 #[.slice A n c, .int .i64 N, .agg #[.int .i64 s0, .int .i64 s1]] w fun e w' => e = .returned (.bool true) ∧ Below w.heap.size w w' := by
  have hg0 := hide (great62 A n c w.heap.size l (w.alloc (.cells #[.int .i64 s0, .int .i64 s1] 65)) (hr.alloc (Nat.le_refl _) _) (by simp) hl)
  have h' : N < -1099511627776 ∨ (-1099511627776 ≤ N ∧ 1099511627776 < N) := by omega
  clear hl hr h
  rcases h' with h | ⟨h, h'⟩
  all_goals
    go_enter Try.func12, Try.ntmps12
    go_wp2_with fail
    refine (hg0.out).mono ?_; rintro e w0 ⟨b, rfl, hb, hb0⟩
    have hbel0 := (show Below w.heap.size w _ from (Below.refl _ _).alloc (Nat.le_refl _) _).trans (hb0.mono (by simp))
    clear hb
    cases b with
    | true =>
      go_wp2_with fail
      go_ret
      exact ⟨rfl, hbel0⟩
    | false =>
      go_wp2_with fail
      go_ret
      exact ⟨rfl, hbel0⟩
theorem turns_walk (A : Option Addr) (n c : Nat) (l : List Pa) (N s0 s1 : Int) (w : World) (hr : Rd w w.heap.size 4 A n (l.flatMap pa)) (hl : l.length = n) :
    Calls Try.prog 12 #[.slice A n c, .int .i64 N, .agg #[.int .i64 s0, .int .i64 s1]] w fun e w' => e = .returned (.bool true) ∧ Below w.heap.size w w' := by
  by_cases h : N < -1099511627776 ∨ 1099511627776 < N
  · exact turns_far A n c l N s0 s1 w hr hl h
  · exact turns_main A n c l N s0 s1 w hr hl (by omega) (by omega)
/-- A passenger in an argument. -/
theorem pa_of {H : Type} {enc : TypeId × Value → H} {w : World} {base : Nat} {spare : Nat → Bool} {held : Bool} (n : Nat) (cs : List Value) (y : DataW H × List MemPlace) (h : DataW.trod enc Try.prog w base spare held n 68 cs = some y) :
    ∃ x : Pa, cs = pa x ∧ True := by
  obtain ⟨zs, rfl, hlen, hwf⟩ := struct_ints (k := .i64) Try.underlying68 (by kernel_rfl) (by kernel_rfl) (by kernel_rfl) h
  match zs, hlen with
  | [a, b, c, d], _ => exact ⟨⟨a, b, c, d⟩, rfl, trivial⟩

set_option maxRecDepth 100000 in
theorem peopleTurns_lifted (os : Os) (started : os.Started) (H : Type) (enc : TypeId × Value → H) :
    ReturnsInHanded {} Try.checked os 12 .any (Rows.peopleTurnsSpec.pre6 enc Try.prog Try.f12 [] false) (Rows.peopleTurnsSpec.post enc Try.prog Try.f12 false true false false) := by
  refine law_lifted (C := Try.checked) Try.own started (by kernel_rfl) Try.func12
    (ChangeSpec.witness6 (enc := enc) (C := Try.checked) false ⟨#[], #[.slice none 0 0, .int .i64 0, .agg #[.int .i64 0, .int .i64 0]], []⟩ 8 (by kernel_rfl) (by kernel_rfl) (by kernel_rfl) (by kernel_rfl))
    Try.laidOut (show ∀ t ∈ [63, 3, 65], Try.prog.readableRec t = true ∧ t < Try.prog.types.size from by
      intro t ht; simp only [List.mem_cons, List.not_mem_nil, or_false] at ht; rcases ht with rfl | rfl | rfl <;> exact ⟨by kernel_rfl, of_decide_eq_true (by kernel_rfl)⟩) (tb := 4) (by kernel_rfl) Try.underlying4 rfl (fun ds hd => ?_) ?_
  · match ds, hd with
    | [_, _, _], _ => rfl
  · intro W base args ds p hval hA
    have hval' : ∀ (j : Nat) t v, Try.f12.params[j]? = some t → args[j]? = some v → Value.okWide Try.prog W .any base t v := hval
    rw [Try.params12] at hA hval'
    obtain ⟨v0, v1, v2, d0, d1, d2, p0, p1, p2, rfl, rfl, rfl, h0, h1, h2⟩ := trodAll_three hA
    obtain ⟨A, n, c, l, rfl, hl, hc, _, _, hr⟩ := arg_list (f := pa) pa_len (by omega) (ok := fun _ => True) Try.underlying63 (by kernel_rfl) pa_of (hval' 0 _ _ rfl rfl) h0
    obtain ⟨N, rfl, w1⟩ := arg_int Try.underlying3 (hval' 1 _ _ rfl rfl) h1
    obtain ⟨zs, rfl, hzl, hzw⟩ := arg_struct_ints (k := .i64) Try.underlying65 (by kernel_rfl) (by kernel_rfl) (by kernel_rfl) (hval' 2 _ _ rfl rfl) h2
    obtain ⟨s0, s1, rfl⟩ : ∃ s0 s1, zs = [s0, s1] := by
      match zs, hzl with
      | [a, b], _ => exact ⟨a, b, rfl⟩
    exact turns_walk A n c l N s0 s1 W hr hl

theorem peopleTurns_holds : Rows.PeopleTurnsSaid :=
  OpenClaim.holds_of_wide 12 Try.f12 rfl rfl rfl rfl rfl rfl rfl ⟨rfl, rfl, rfl, rfl, rfl⟩ rfl rfl rfl rfl rfl (by kernel_rfl) Try.func12 (by kernel_rfl)
    (of_decide_eq_true (by kernel_rfl)) (by unfold Func.isWrapper; first | (rw [if_pos (by decide +kernel)]; kernel_rfl) | (rw [if_neg (by decide +kernel)]; exact ⟨rfl, rfl⟩))
    (fun os started H enc _ => peopleTurns_lifted os started H enc)
#print axioms peopleTurns_holds
end Go.Proofs.Ytkgkilogjodccaa
