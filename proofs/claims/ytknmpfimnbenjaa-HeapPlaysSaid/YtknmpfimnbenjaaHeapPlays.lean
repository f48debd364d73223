/-
  The law HeapPlays holds: whatever the entries and the calls, the call returns true and turns nothing. No condition.
-/
import Derived.Test.YtknmpfimnbenjaaRows
import Derived.Test.YtknmpfimnbenjaaFrame
import Derived.Test.YtknmpfimnbenjaaHeapAlive
import Derived.Test.YtknmpfimnbenjaaHeapStep3
import Derived.Deep.DeepCutAuto
namespace Go.Proofs.Ytknmpfimnbenjaa
open Go.ChangeShapes Go.WideShapes Go.ChangeAt Go.RowKit HB HeapP
set_option linter.unusedVariables false
set_option linter.unusedSimpArgs false

/-- a call: its kind and its entry -/
structure Oq where
  n : Int
  e : En
deriving Inhabited
abbrev opc : Oq → List Value := fun o => [.int .i64 o.n, .int .i64 o.e.t, .int .i64 o.e.k, .int .i64 o.e.i]
theorem opc_len (o : Oq) : (opc o).length = 4 := rfl
theorem Rd.op_at {w : World} {B n : Nat} {A : Option Addr} {L : List Oq} (h : Rd w B 4 A n (L.flatMap opc)) (hl : L.length = n) {i : Nat} (hi : i < n) :
    ∃ (b off : Nat) (x : Oq), A = some ⟨b, off, none⟩ ∧ b < B ∧ w.cell? ⟨b, off + i * 4, none⟩ = some (.int .i64 x.n) ∧ w.cell? ⟨b, off + i * 4 + 1, none⟩ = some (.int .i64 x.e.t) ∧ w.cell? ⟨b, off + i * 4 + 2, none⟩ = some (.int .i64 x.e.k) ∧ w.cell? ⟨b, off + i * 4 + 3, none⟩ = some (.int .i64 x.e.i) := by
  obtain ⟨b, off, x, hA, hb, hg, hc⟩ := h.elem_at opc_len hl hi
  exact ⟨b, off, x, hA, hb, hc 0 _ (by omega) rfl, hc 1 _ (by omega) rfl, hc 2 _ (by omega) rfl, hc 3 _ (by omega) rfl⟩
def PlaysQ (w : World) (e : Ending) (w' : World) : Prop := e = .returned (.bool true) ∧ Below w.heap.size w w'
set_option maxRecDepth 100000 in
set_option maxHeartbeats 8000000 in
theorem heapPlays_walk (A B : Option Addr) (n c m d : Nat) (l : List En) (os : List Oq) (w : World) (hr : Rd w w.heap.size 3 A n (l.flatMap ent)) (hl : l.length = n) (hc : n ≤ c) (hq : Rd w w.heap.size 4 B m (os.flatMap opc)) (hm : os.length = m) :
    Calls Try.prog 8 #[.slice A n c, .slice B m d] w (PlaysQ w) := by
  by_cases hn : 50 < n ∨ (n ≤ 50 ∧ 80 < m)
  · clear hr hl hq hm hc
    rcases hn with h | ⟨h, h'⟩
    all_goals
      go_enter Try.func8, Try.ntmps8
      go_wp2_with fail
      go_ret
      exact ⟨rfl, Below.refl _ _⟩
  · have hn1 : n ≤ 50 := by omega
    have hn2 : m ≤ 80 := by omega
    have HMK := hide (heap_make A n c w.heap.size l w hr (Nat.le_refl _) hl (by omega))
    have HRS := hide (fun W (h : Below w.heap.size w W) => ref_sorted6 A n c w.heap.size l W (hr.below h) h.size hl (by omega))
    have Hl := hide hl
    have Hm := hide hm
    have HQ := hide hq
    clear hr hl hq hm hn
    go_enter Try.func8, Try.ntmps8
    go_wp2_with (first
      | (go_at_call 36; refine (HMK.out).mono ?_; rintro e w1 ⟨p, g, L1, rfl, hp1, hi1, hm1, hpz, hgz, hb1⟩; have HP1 := hide hp1; have HI1 := hide hi1; have HM1 := hide hm1; have HB1 := hide hb1; clear hp1 hi1 hm1 hb1)
      | (go_at_call 37; refine (HRS.out _ HB1.out).mono ?_; rintro e w2 ⟨⟨v2, s2, rfl, hown2, hs2, hm2⟩, hb2⟩; obtain ⟨A2, c2, rfl, hc2, -⟩ := hown2.shape; have hln := hm2.length_eq; rw [Hl.out] at hln; have HW2 := hide hown2; have HS2 := hide hs2; have HM2 := hide hm2; have HB2 := hide hb2; rw [hln] at hc2 ⊢; have HLN := hide hln; clear hown2 hs2 hm2 hb2 hln))
    have HPZ := hide (show w.heap.size ≤ p ∧ w.heap.size ≤ g from ⟨hpz, hgz⟩)
    have hq0 := RdX.fresh HW2.out HP1.out.pl HP1.out.gl
    rw [HLN.out] at hq0
    have HX0 := hide hq0
    have HP0 := hide (HP1.out.below HB2.out)
    have HB0 := hide (HB1.out.trans (HB2.out.mono HB1.out.size))
    have HPM0 := hide (HM2.out.trans HM1.out.symm)
    clear HMK HRS HP1 HM1 HB1 HW2 HM2 HB2 hq0 hpz hgz
    go_loopw [6, 7] (fun lv i wr => ∃ (k g : Nat) (L l : List En) (A : Option Addr) (n c : Nat), k ≤ m ∧ i = .int .i64 k ∧ lv = .slice A n c ∧ Hp wr p g L ∧ IsHeap L ∧ RdX wr p g A n l ∧ l.length = n ∧ n ≤ c ∧ Srt l ∧ l.Perm L ∧ n ≤ 50 + k ∧ w.heap.size ≤ g ∧ Below w.heap.size w wr) (fun _ i _ => m - (intOf i).toNat)
    case atStart => exact ⟨0, g, L1, s2, A2, n, c2, Nat.zero_le _, rfl, rfl, HP0.out, HI1.out, HX0.out, HLN.out, hc2, HS2.out, HPM0.out, by omega, HPZ.out.2, HB0.out⟩
    case round =>
      obtain ⟨k, g1, L, l1, A1, n1, c1, hk, rfl, rfl, hp', hih, hrx, hl1, hc1, hs1, hpm1, hn50, hg1, hbel⟩ := hrel
      have HBE := hide hbel
      by_cases hlt : k < m
      · obtain ⟨b, off, x, rfl, hb, x0, x1, x2, x3⟩ := Rd.op_at (HQ.out.below hbel) Hm.out hlt
        have i0 : (0 : Int) ≤ (k : Int) := by omega
        have i1 : (k : Int) < (m : Int) := by omega
        by_cases hx : x.n < 0
        · clear hp' hih hrx hl1 hs1 hpm1 hbel
          go_wp2_with fail
          go_ret
          exact ⟨rfl, HBE.out⟩
        · obtain ⟨xn, xe⟩ := x
          obtain ⟨K, rfl⟩ := Int.eq_ofNat_of_zero_le (show 0 ≤ xn by simp only at hx; omega)
          have HST := hide (heap_step p g1 n1 c1 K A1 L l1 xe wr hp' hih hrx hl1 hc1 hs1 hpm1 (by omega))
          clear hp' hih hrx hl1 hs1 hpm1 hbel hc1 hx
          go_wp2_with (first
            | (go_at_call 38; refine (HST.out).mono ?_; rintro e w4 ⟨g2, L2, A4, n4, c4, l4, rfl, hp4, hi4, hx4, hl4, hc4, hs4, hm4, hn4, ho4, hg4⟩; have HP4 := hide hp4; have HI4 := hide hi4; have HX4 := hide hx4; have HL4 := hide hl4; have HS4 := hide hs4; have HM4 := hide hm4; have HO4 := hide (ho4.below HPZ.out.1 hg1 HBE.out.size); have hg4' : w.heap.size ≤ g2 := (by rcases hg4 with h | h; omega; have := HBE.out.size; omega); have HLL := hide (hm4.length_eq.symm.trans hl4); clear hp4 hi4 hx4 hl4 hs4 hm4 ho4 hg4)
            | (go_at_call 39; refine (heap_len p g2 n4 L2 _ HP4.out HLL.out).mono ?_; rintro e w5 ⟨rfl, rfl⟩)
            | (go_at_call 40; refine (heap_peek p g2 n4 L2 _ HP4.out HLL.out (by omega)).mono ?_; rintro e w6 ⟨rfl, hb6⟩; have HB6 := hide hb6; clear hb6))
          have HT9 := hide (Trio.new w6 70 (.int .i64 (top L2).t) (.int .i64 (top L2).k) (.int .i64 (top L2).i))
          have hb69 := (Below.refl w6.heap.size w6).alloc (Nat.le_refl _) (.cells #[.int .i64 (top L2).t, .int .i64 (top L2).k, .int .i64 (top L2).i] 70)
          have HP9 := hide ((HP4.out.below HB6.out).below hb69)
          have HX9 := hide ((HX4.out.only (g := g2) (Only.of_below (p := p) HB6.out) (.inl rfl)).only (g := g2) (Only.of_below (p := p) hb69) (.inl rfl))
          have HB9 := hide ((HBE.out.trans (HO4.out)).trans ((HB6.out.trans (hb69.mono HB6.out.size)).mono (HBE.out.trans HO4.out).size))
          have HTZ := hide (fun h0 : n4 = 0 => top_zero (L := L2) (by rw [HLL.out]; exact h0))
          have HTS := hide (fun h0 : 0 < n4 => srt_top HS4.out HM4.out HI4.out (by rw [HL4.out]; exact h0))
          clear hb69 HP4 HX4 HB6 HO4 HLL HST
          generalize w6.alloc (.cells #[.int .i64 (top L2).t, .int .i64 (top L2).k, .int .i64 (top L2).i] 70) = w9 at *
          generalize w6.heap.size = r9 at *
          generalize top L2 = tx at *
          go_cut [11, 86] (fun _ s wx => s = .bool false ∧ Below w9.heap.size w9 wx)
          case first =>
            obtain ⟨t0, t1, t2, -, -, -, -⟩ := HT9.out
            rcases Nat.eq_zero_or_pos n4 with h0 | h0
            · have htz := HTZ.out h0
              subst htz
              subst h0
              go_wp2_with fail
              go_quiet (fail)
              go_wp2_with fail
              go_meet
              exact ⟨rfl, below_drewN (Below.refl _ _) _⟩
            · obtain ⟨y, hy1, rfl⟩ := HTS.out h0
              obtain ⟨b', off', y', rfl, hb', hg', y0, y1, y2⟩ := HX9.out.1.ent_at HL4.out h0
              have y0 : w9.cell? ⟨b', off', none⟩ = _ := y0
              have y1 : w9.cell? ⟨b', off' + 1, none⟩ = _ := y1
              have y2 : w9.cell? ⟨b', off' + 2, none⟩ = _ := y2
              have hyy : y' = tx := by rw [hy1] at hg'; simpa using hg'.symm
              subst hyy
              have j0 : (0 : Int) < (n4 : Int) := by omega
              have j1 : decide (0 < n4) = true := by simpa using h0
              clear hy1 hg'
              go_wp2_with fail
              go_quiet (fail)
              go_wp2_with fail
              go_meet
              exact ⟨rfl, below_drewN (Below.refl _ _) _⟩
          case rest =>
            obtain ⟨rfl, hbw⟩ := hcut
            have HBW := hide hbw
            clear hbw x0 x1 x2 x3
            go_wp2_with fail
            go_roundw
            case rel => exact ⟨k + 1, g2, L2, l4, A4, n4, c4, by omega, by go_num, rfl, HP9.out.below HBW.out, HI4.out, HX9.out.only (g := g2) (Only.of_below (p := p) HBW.out) (.inl rfl), HL4.out, hc4, HS4.out, HM4.out, by omega, hg4', HB9.out.trans (HBW.out.mono HB9.out.size)⟩
            case measure => simp [intOf]; omega
      · obtain rfl : k = m := by omega
        clear hp' hih hrx hl1 hs1 hpm1 hbel
        go_wp2_with (go_at_call 41; refine (heap_alive _).mono ?_; rintro e w9 ⟨rfl, hb9⟩)
        go_ret
        exact ⟨rfl, then_ HBE.out hb9 (Nat.le_refl _)⟩
theorem ent_of {H : Type} {enc : TypeId × Value → H} {w : World} {base : Nat} {spare : Nat → Bool} {held : Bool} (n : Nat) (cs : List Value) (y : DataW H × List MemPlace) (h : DataW.trod enc Try.prog w base spare held n 70 cs = some y) :
    ∃ x : En, cs = ent x ∧ True := by
  obtain ⟨zs, rfl, hlen, hwf⟩ := struct_ints (k := .i64) Try.underlying70 (by kernel_rfl) (by kernel_rfl) (by kernel_rfl) h
  match zs, hlen with
  | [a, b, c], _ => exact ⟨⟨a, b, c⟩, rfl, trivial⟩
theorem op_of {H : Type} {enc : TypeId × Value → H} {w : World} {base : Nat} {spare : Nat → Bool} {held : Bool} (n : Nat) (cs : List Value) (y : DataW H × List MemPlace) (h : DataW.trod enc Try.prog w base spare held n 72 cs = some y) :
    ∃ x : Oq, cs = opc x ∧ True := by
  obtain ⟨xs, n', _, _, hlen, hxl, hf⟩ := DataW.trod_struct Try.underlying72 h
  have h0 : DataW.trod enc Try.prog w base spare held n' 3 (List.take (Try.prog.cellsOf 3) (List.drop 0 cs)) = xs[0]? := hf 0 _ rfl
  have h1 : DataW.trod enc Try.prog w base spare held n' 70 (List.take (Try.prog.cellsOf 70) (List.drop 1 cs)) = xs[1]? := hf 1 _ rfl
  have hx2 : xs.length = 2 := hxl
  rw [show Try.prog.cellsOf 72 = 4 by kernel_rfl] at hlen
  rw [show Try.prog.cellsOf 3 = 1 by kernel_rfl, List.getElem?_eq_getElem (by omega)] at h0
  rw [show Try.prog.cellsOf 70 = 3 by kernel_rfl, List.getElem?_eq_getElem (by omega)] at h1
  obtain ⟨z, hz, _, _⟩ := DataW.trod_int Try.underlying3 h0
  obtain ⟨e, he, _⟩ := ent_of _ _ _ h1
  refine ⟨⟨z, e⟩, ?_, trivial⟩
  rw [List.take_of_length_le (by rw [List.length_drop]; omega)] at he
  have h3 := (List.take_append_drop 1 cs).symm
  rw [List.drop_zero] at hz
  rw [hz, he] at h3
  exact h3

set_option maxRecDepth 100000 in
theorem heapPlays_lifted (os : Os) (started : os.Started) (H : Type) (enc : TypeId × Value → H) :
    ReturnsInHanded {} Try.checked os 8 .any (Rows.heapPlaysSpec.pre6 enc Try.prog Try.f8 [] false) (Rows.heapPlaysSpec.post enc Try.prog Try.f8 false true false false) := by
  refine law_lifted (C := Try.checked) Try.own started (by kernel_rfl) Try.func8
    (ChangeSpec.witness6 (enc := enc) (C := Try.checked) false ⟨#[], #[.slice none 0 0, .slice none 0 0], []⟩ 8 (by kernel_rfl) (by kernel_rfl) (by kernel_rfl) (by kernel_rfl))
    Try.laidOut (show ∀ t ∈ [64, 65], Try.prog.readableRec t = true ∧ t < Try.prog.types.size from by
      intro t ht; simp only [List.mem_cons, List.not_mem_nil, or_false] at ht; rcases ht with rfl | rfl <;> exact ⟨by kernel_rfl, of_decide_eq_true (by kernel_rfl)⟩) (tb := 4) (by kernel_rfl) Try.underlying4 rfl (fun ds hd => ?_) ?_
  · match ds, hd with
    | [_, _], _ => rfl
  · intro W base args ds p hval hA
    have hval' : ∀ (j : Nat) t v, Try.f8.params[j]? = some t → args[j]? = some v → Value.okWide Try.prog W .any base t v := hval
    rw [Try.params8] at hA hval'
    obtain ⟨v0, v1, d0, d1, p0, p1, rfl, rfl, rfl, h0, h1⟩ := trodAll_two hA
    obtain ⟨A, n, c, l, rfl, hl, hc, _, _, hr⟩ := arg_list (f := ent) ent_len (by omega) (ok := fun _ => True) Try.underlying64 (by kernel_rfl) ent_of (hval' 0 _ _ rfl rfl) h0
    obtain ⟨B, m, d, os, rfl, hm, _, _, _, hq⟩ := arg_list (f := opc) opc_len (by omega) (ok := fun _ => True) Try.underlying65 (by kernel_rfl) op_of (hval' 1 _ _ rfl rfl) h1
    exact heapPlays_walk A B n c m d l os W hr hl hc hq hm

theorem heapPlays_holds : Rows.HeapPlaysSaid :=
  OpenClaim.holds_of_wide 8 Try.f8 rfl rfl rfl rfl rfl rfl rfl ⟨rfl, rfl, rfl, rfl, rfl⟩ rfl rfl rfl rfl rfl (by kernel_rfl) Try.func8 (by kernel_rfl)
    (of_decide_eq_true (by kernel_rfl)) (by unfold Func.isWrapper; first | (rw [if_pos (by decide +kernel)]; kernel_rfl) | (rw [if_neg (by decide +kernel)]; exact ⟨rfl, rfl⟩))
    (fun os started H enc _ => heapPlays_lifted os started H enc)
#print axioms heapPlays_holds
end Go.Proofs.Ytknmpfimnbenjaa
