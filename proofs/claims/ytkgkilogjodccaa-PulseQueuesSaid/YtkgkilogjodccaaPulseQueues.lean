/-
  The law PulseQueues holds: whatever the trips and the horizon, the call returns true and turns nothing. No condition.
-/
import Derived.Test.YtkgkilogjodccaaRows
import Derived.Test.YtkgkilogjodccaaFrame
import Derived.Test.YtkgkilogjodccaaQueue
import Derived.Test.YtkgkilogjodccaaOwn2
import Derived.Test.YtkgkilogjodccaaEqInt
import Derived.Test.YtkgkilogjodccaaPulseAlive
namespace Go.Proofs.Ytkgkilogjodccaa
open Go.ChangeShapes Go.WideShapes Go.ChangeAt Go.RowKit HB PulseP TripP
set_option linter.unusedVariables false
set_option linter.unusedSimpArgs false

def Queues.In1 (l : List Tr) (w : World) (a b i : Value) (wr : World) : Prop :=
  ∃ q : Nat, q ≤ l.length ∧ i = .int .i64 q ∧ Own wr w.heap.size 3 1 (num .i64) a (came (l.take q)) ∧ Own wr w.heap.size 3 1 (num .i64) b (outs (l.take q)) ∧ Dj a b ∧ Below w.heap.size w wr
def Queues.In2 (l : List Tr) (H : Nat) (a b : Value) (w : World) (o i : Value) (wr : World) : Prop :=
  ∃ t : Nat, t ≤ H ∧ i = .int .i64 t ∧ Own wr w.heap.size 3 1 (num .i64) o (tb t (cn l)) ∧ Own wr w.heap.size 3 1 (num .i64) a (came l) ∧ Own wr w.heap.size 3 1 (num .i64) b (outs l) ∧ Dj o a ∧ Dj o b ∧ Below w.heap.size w wr
set_option maxRecDepth 100000 in
set_option maxHeartbeats 8000000 in
theorem queues_main (A : Option Addr) (n c H : Nat) (l : List Tr) (h : Int) (w : World) (hr : Rd w w.heap.size 7 A n (l.flatMap tr)) (hl : l.length = n) (hh : h ≤ 300) (hH : max h 0 = (H : Int)) (hhlo : -9223372036854775808 ≤ h) :
    Calls Try.prog 11 #[.slice A n c, .int .i64 h] w fun e w' => e = .returned (.bool true) ∧ Below w.heap.size w w' := by
  have Hl := hide hl
  have HR := hide hr
  have HH := hide hH
  have hg0 := hide (great24 A n c w.heap.size l w hr (Nat.le_refl _) hl)
  have d1 : decide (300 < h) = false := by simp; omega
  clear hl hr hH
  go_enter Try.func11, Try.ntmps11
  go_wp2_with fail
  refine (hg0.out).mono ?_; rintro e w0 ⟨b, rfl, hb, hbel0⟩
  cases b with
  | true =>
    clear hb
    go_wp2_with fail
    go_ret
    exact ⟨rfl, hbel0⟩
  | false =>
    obtain ⟨hn, hfine⟩ := hb rfl
    have HF := hide hfine
    have hH3 : H ≤ 300 := by have := HH.out; omega
    clear hb hfine
    go_wp2_with fail
    go_loopw [5, 6, 8] (fun a b i wr => Queues.In1 l w a b i wr) (fun _ _ i _ => n - (intOf i).toNat)
    case atStart => exact ⟨0, Nat.zero_le _, rfl, Own.nil _ _ _ _ _, Own.nil _ _ _ _ _, Dj.nil _ _ _, hbel0⟩
    case round =>
      obtain ⟨q, hq, rfl, howna, hownb, hdj, hbel⟩ := hrel
      rw [Hl.out] at hq
      have HOA := hide howna
      have HOB := hide hownb
      have HDJ := hide hdj
      have hz := hbel.size
      clear howna hownb hdj hbel0
      by_cases hlt : q < n
      · obtain ⟨b, off, x, rfl, hb, hg, c0, c1, c2, c3, c4, c5, c6⟩ := (HR.out.below hbel).trip_at Hl.out hlt
        have hLa : (came (l.take q)).length ≤ 1000000000 := by rw [came_length, List.length_take]; omega
        have hLb : (outs (l.take q)).length ≤ 1000000000 := by have := outs_length (l.take q); rw [List.length_take] at this; omega
        have hca := hide (came_next hg)
        have c6p := fun (W : World) (hW : Below w.heap.size wr W) => (hW.cell (p := ⟨b, off + q * 7 + 6, none⟩) hb).trans c6
        have C6 := hide c6p
        clear c0 c2 c3 c4 c5 c6p
        by_cases hx : 0 ≤ x.ali
        · have hob := hide (outs_yes hg hx)
          have dd : decide (0 ≤ x.ali) = true := by simpa using hx
          clear hg
          go_wp2_with (first
            | (at_builtin; refine push2 rfl _ _ 35 rfl Try.underlying35 Trips.info rfl (by omega) (by omega) rfl (HOA.out.alloc _) x.arr ⟨_, 0, none⟩ 1 rfl rfl (cell_one_at _ _ _ _ rfl) (by simp [Value.oneCell']) hLa (Nat.le_trans hz (by simp)) ?_; intro va w1 howna hb1 hgr hblk; have HOB1 := hide ((HOB.out.alloc _).grown hgr HDJ.out); have HDJ1 := hide (Dj.next (HOB.out.alloc _) HDJ.out hblk); have HOA1 := hide howna; have hB1 := (hbel.alloc hz _).trans hb1; have c66 := C6.out _ (((Below.refl _ _).alloc hz _).trans hb1); have hz1 := hB1.size; clear howna hb1 hgr hblk)
            | (at_builtin; refine push2 rfl _ _ 35 rfl Try.underlying35 Trips.info rfl (by omega) (by omega) rfl (HOB1.out.alloc _) x.ali ⟨_, 0, none⟩ 1 rfl rfl (cell_one_at _ _ _ _ rfl) (by simp [Value.oneCell']) hLb (Nat.le_trans hz1 (by simp)) ?_; intro vb w2 hownb hb2 hgr2 hblk2; have HOA2 := hide ((HOA1.out.alloc _).grown hgr2 HDJ1.out.symm); have HDJ2 := hide (Dj.next (HOA1.out.alloc _) HDJ1.out.symm hblk2); have HOB2 := hide hownb; have hB2 := (hB1.alloc hz1 _).trans hb2; clear hownb hb2 hgr2 hblk2))
          go_roundw
          case rel => exact ⟨q + 1, by rw [Hl.out]; omega, by go_num, by rw [hca.out]; exact HOA2.out, by rw [hob.out]; exact HOB2.out, HDJ2.out.symm, hB2⟩
          case measure => simp [intOf]; omega
        · have hob := hide (outs_no hg (by omega))
          have dd : decide (0 ≤ x.ali) = false := by simpa using hx
          clear hg
          go_wp2_with (at_builtin; refine push2 rfl _ _ 35 rfl Try.underlying35 Trips.info rfl (by omega) (by omega) rfl (HOA.out.alloc _) x.arr ⟨_, 0, none⟩ 1 rfl rfl (cell_one_at _ _ _ _ rfl) (by simp [Value.oneCell']) hLa (Nat.le_trans hz (by simp)) ?_; intro va w1 howna hb1 hgr hblk; have HOB1 := hide ((HOB.out.alloc _).grown hgr HDJ.out); have HDJ1 := hide (Dj.next (HOB.out.alloc _) HDJ.out hblk); have HOA1 := hide howna; have hB1 := (hbel.alloc hz _).trans hb1; have c66 := C6.out _ (((Below.refl _ _).alloc hz _).trans hb1); clear howna hb1 hgr hblk)
          go_roundw
          case rel => exact ⟨q + 1, by rw [Hl.out]; omega, by go_num, by rw [hca.out]; exact HOA1.out, by rw [hob.out]; exact HOB1.out, HDJ1.out, hB1⟩
          case measure => simp [intOf]; omega
      · have he : l.take q = l := List.take_of_length_le (by rw [Hl.out]; omega)
        rw [he] at HOA HOB
        clear he
        go_wp2_with fail
        go_loopw [7, 9] (fun o i wr2 => Queues.In2 l H u5 u6 w o i wr2) (fun _ i _ => H - (intOf i).toNat)
        case atStart => exact ⟨0, Nat.zero_le _, rfl, Own.nil _ _ _ _ _, HOA.out, HOB.out, Dj.nil _ _ _, Dj.nil _ _ _, hbel⟩
        case round =>
          clear HOA HOB HDJ hbel hz
          obtain ⟨t, ht, rfl, hown, howna, hownb, hda, hdb, hbel⟩ := hrel
          obtain ⟨W2, hW2⟩ : ∃ W2, W2 = wr := ⟨_, rfl⟩
          subst hW2
          have HO := hide hown
          have HOA := hide howna
          have HOB := hide hownb
          have HDA := hide hda
          have HDB := hide hdb
          have hz := hbel.size
          have HRW := hide (HR.out.below hbel)
          clear hown howna hownb hda hdb
          by_cases hlt2 : t < H
          · have t1 : (t : Int) < h := by have := HH.out; omega
            go_wp2_with fail
            go_loop [10, 11] (fun s i => ∃ k : Nat, k ≤ n ∧ i = .int .i64 k ∧ s = .int .i64 (cn (l.take k) t)) (fun _ i => n - (intOf i).toNat)
            case atStart => exact ⟨0, Nat.zero_le _, rfl, rfl⟩
            case round =>
              obtain ⟨k, hk, rfl, rfl⟩ := hrel
              by_cases hlt3 : k < n
              · obtain ⟨b, off, x, rfl, hb, hg, c0, c1, c2, c3, c4, c5, c6⟩ := HRW.out.trip_at Hl.out hlt3
                have hcn := hide (cn_next hg t)
                obtain ⟨r1, r2⟩ := cn_range (l.take k) t
                have r3 : cn (l.take k) t ≤ 100 := by rw [List.length_take, Hl.out] at r2; omega
                clear hg r2 c0 c2 c3 c4 c6
                generalize cn (l.take k) t = y at *
                rcases (show (t : Int) < x.arr ∨ (x.arr ≤ (t : Int) ∧ x.brd < 0) ∨ (x.arr ≤ (t : Int) ∧ 0 ≤ x.brd ∧ x.brd ≤ (t : Int)) ∨ (x.arr ≤ (t : Int) ∧ 0 ≤ x.brd ∧ (t : Int) < x.brd) by omega) with g1 | ⟨g1, g2⟩ | ⟨g1, g2, g3⟩ | ⟨g1, g2, g3⟩
                · have e1 : decide (x.arr ≤ (t : Int)) = false := by simp; omega
                  have hE := hide (show cn (l.take (k + 1)) t = y by rw [hcn.out, if_neg (by omega)]; omega)
                  clear hcn
                  go_wp2_with fail
                  go_round
                  case rel => exact ⟨k + 1, by omega, by go_num, by rw [hE.out]⟩
                  case measure => simp [intOf]; omega
                · have e1 : decide (x.arr ≤ (t : Int)) = true := by simp; omega
                  have e2 : decide (x.brd < 0) = true := by simp; omega
                  have hE := hide (show cn (l.take (k + 1)) t = y + 1 by rw [hcn.out, if_pos (by omega)])
                  clear hcn
                  go_wp2_with fail
                  go_round
                  case rel => exact ⟨k + 1, by omega, by go_num, by rw [hE.out]⟩
                  case measure => simp [intOf]; omega
                · have e1 : decide (x.arr ≤ (t : Int)) = true := by simp; omega
                  have e2 : decide (x.brd < 0) = false := by simp; omega
                  have e3 : decide ((t : Int) < x.brd) = false := by simp; omega
                  have hE := hide (show cn (l.take (k + 1)) t = y by rw [hcn.out, if_neg (by omega)]; omega)
                  clear hcn
                  go_wp2_with fail
                  go_round
                  case rel => exact ⟨k + 1, by omega, by go_num, by rw [hE.out]⟩
                  case measure => simp [intOf]; omega
                · have e1 : decide (x.arr ≤ (t : Int)) = true := by simp; omega
                  have e2 : decide (x.brd < 0) = false := by simp; omega
                  have e3 : decide ((t : Int) < x.brd) = true := by simp; omega
                  have hE := hide (show cn (l.take (k + 1)) t = y + 1 by rw [hcn.out, if_pos (by omega)])
                  clear hcn
                  go_wp2_with fail
                  go_round
                  case rel => exact ⟨k + 1, by omega, by go_num, by rw [hE.out]⟩
                  case measure => simp [intOf]; omega
              · have he : l.take k = l := List.take_of_length_le (by rw [Hl.out]; omega)
                rw [he]
                have hL : (tb t (cn l)).length ≤ 1000000000 := by rw [tb_length]; omega
                have hnx := hide (tb_next t (cn l))
                generalize cn l t = y at *
                clear he
                go_wp2_with (at_builtin; refine push2 rfl _ _ 35 rfl Try.underlying35 Trips.info rfl (by omega) (by omega) rfl (HO.out.alloc _) y ⟨_, 0, none⟩ 1 rfl rfl (cell_one_at _ _ _ _ rfl) (by simp [Value.oneCell']) hL (Nat.le_trans hz (by simp)) ?_; intro va w1 hown1 hb1 hgr hblk; have HOA1 := hide ((HOA.out.alloc _).grown hgr HDA.out); have HDA1 := hide (Dj.next (HOA.out.alloc _) HDA.out hblk); have HOB1 := hide ((HOB.out.alloc _).grown hgr HDB.out); have HDB1 := hide (Dj.next (HOB.out.alloc _) HDB.out hblk); have HO1 := hide hown1; have hB1 := (hbel.alloc hz _).trans hb1; clear hown1 hb1 hgr hblk)
                go_roundw
                case rel => exact ⟨t + 1, by omega, by go_num, by rw [← hnx.out]; exact HO1.out, HOA1.out, HOB1.out, HDA1.out, HDB1.out, hB1⟩
                case measure => simp [intOf]; omega
          · obtain rfl : t = H := by omega
            have t1 : h ≤ (t : Int) := by have := HH.out; omega
            obtain ⟨A0, c0, e0, hc0, hrd0⟩ := HO.out.ints
            rw [tb_length] at e0 hc0 hrd0
            obtain ⟨A1, c1, e1, hc1, hrd1⟩ := HOA.out.ints
            rw [came_length, Hl.out] at e1 hc1 hrd1
            obtain ⟨A2, c2, e2, hc2, hrd2⟩ := HOB.out.ints
            have hlo := outs_length l
            rw [Hl.out] at hlo
            subst e0
            subst e1
            subst e2
            have HE0 := hide hrd0
            have HE1 := hide hrd1
            have HE2 := hide hrd2
            clear hrd0 hrd1 hrd2 HO HOA HOB HDA HDB
            go_wp2_with fail
            clear t1
            refine (arrivals A n c w.heap.size l _ HRW.out hz Hl.out hn).mono ?_; rintro e w3 ⟨⟨v3, rfl, hown3⟩, hb3⟩
            have hs3 := hown3.ints
            rw [came_length, Hl.out] at hs3
            obtain ⟨A3, c3, rfl, hc3, hrd3⟩ := hs3
            have HE3 := hide hrd3
            clear hown3 hrd3
            go_wp2_with fail
            refine (eqInt A3 A1 n n c3 c1 _ _ (came l) (came l) _ HE3.out (HE1.out.below hb3) (by omega) (by omega)).mono ?_; rintro e w4 ⟨rfl, m4, rfl⟩
            simp only [decide_true]
            have hb4 := below_drewN hb3 m4
            have hB4 := then_ hbel hb4 (Nat.le_refl _)
            clear hb3
            go_wp2_with fail
            refine (pulse_outs A n c w.heap.size l _ (HR.out.below hB4) hB4.size Hl.out hn).mono ?_; rintro e w5 ⟨⟨v5, rfl, hown5⟩, hb5⟩
            obtain ⟨A5, c5, rfl, hc5, hrd5⟩ := hown5.ints
            have HE5 := hide hrd5
            have hb25 := then_ hb4 hb5 (Nat.le_refl _)
            clear hown5 hrd5
            go_wp2_with fail
            refine (eqInt A5 A2 _ _ c5 c2 _ _ (outs l) (outs l) _ HE5.out (HE2.out.below hb25) (by omega) (by omega)).mono ?_; rintro e w6 ⟨rfl, m6, rfl⟩
            simp only [decide_true]
            have hb26 := below_drewN hb25 m6
            have hB6 := then_ hbel hb26 (Nat.le_refl _)
            clear hb4 hb5 hB4 hb25
            go_wp2_with fail
            refine (pulse_queue A n c w.heap.size t l h _ (HR.out.below hB6) hB6.size Hl.out hn HH.out hH3 HF.out).mono ?_; rintro e w7 ⟨⟨v7, rfl, hown7⟩, hb7⟩
            have hs7 := hown7.ints
            rw [tb_length] at hs7
            obtain ⟨A7, c7, rfl, hc7, hrd7⟩ := hs7
            have HE7 := hide hrd7
            have hb27 := then_ hb26 hb7 (Nat.le_refl _)
            clear hown7 hrd7 hb7
            go_wp2_with fail
            refine (eqInt A7 A0 _ _ c7 c0 _ _ (tb t (cn l)) (tb t (cn l)) _ HE7.out (HE0.out.below hb27) (by omega) (by omega)).mono ?_; rintro e w8 ⟨rfl, m8, rfl⟩
            simp only [decide_true]
            have hB8 := then_ hbel (below_drewN hb27 m8) (Nat.le_refl _)
            go_wp2_with (go_at_call 37; refine (pulse_alive2 _).mono ?_; rintro e w9 ⟨rfl, hb9⟩)
            go_ret
            exact ⟨rfl, then_ hB8 hb9 (Nat.le_refl _)⟩
theorem queues_far (A : Option Addr) (n c : Nat) (l : List Tr) (h : Int) (w : World) (hr : Rd w w.heap.size 7 A n (l.flatMap tr)) (hl : l.length = n) (hh : 300 < h) :
    Calls Try.prog 11 #[.slice A n c, .int .i64 h] w fun e w' => e = .returned (.bool true) ∧ Below w.heap.size w w' := by
  have hg0 := hide (great24 A n c w.heap.size l w hr (Nat.le_refl _) hl)
  clear hl hr
  go_enter Try.func11, Try.ntmps11
  go_wp2_with fail
  refine (hg0.out).mono ?_; rintro e w0 ⟨b, rfl, hb, hbel0⟩
  clear hb
  cases b with
  | true =>
    go_wp2_with fail
    go_ret
    exact ⟨rfl, hbel0⟩
  | false =>
    go_wp2_with fail
    go_ret
    exact ⟨rfl, hbel0⟩
theorem queues_walk (A : Option Addr) (n c : Nat) (l : List Tr) (h : Int) (w : World) (hr : Rd w w.heap.size 7 A n (l.flatMap tr)) (hl : l.length = n) (hlo : -9223372036854775808 ≤ h) :
    Calls Try.prog 11 #[.slice A n c, .int .i64 h] w fun e w' => e = .returned (.bool true) ∧ Below w.heap.size w w' := by
  by_cases hh : 300 < h
  · exact queues_far A n c l h w hr hl hh
  · exact queues_main A n c h.toNat l h w hr hl (by omega) (by omega) hlo
/-- A trip in an argument. -/
theorem trip_of {H : Type} {enc : TypeId × Value → H} {w : World} {base : Nat} {spare : Nat → Bool} {held : Bool} (n : Nat) (cs : List Value) (y : DataW H × List MemPlace) (h : DataW.trod enc Try.prog w base spare held n 59 cs = some y) :
    ∃ x : Tr, cs = tr x ∧ True := by
  obtain ⟨zs, rfl, hlen, hwf⟩ := struct_ints (k := .i64) Try.underlying59 (by kernel_rfl) (by kernel_rfl) (by kernel_rfl) h
  match zs, hlen with
  | [a, b, c, d, e, f, g], _ => exact ⟨⟨a, b, c, d, e, f, g⟩, rfl, trivial⟩

set_option maxRecDepth 100000 in
theorem pulseQueues_lifted (os : Os) (started : os.Started) (H : Type) (enc : TypeId × Value → H) :
    ReturnsInHanded {} Try.checked os 11 .any (Rows.pulseQueuesSpec.pre6 enc Try.prog Try.f11 [] false) (Rows.pulseQueuesSpec.post enc Try.prog Try.f11 false true false false) := by
  refine law_lifted (C := Try.checked) Try.own started (by kernel_rfl) Try.func11
    (ChangeSpec.witness6 (enc := enc) (C := Try.checked) false ⟨#[], #[.slice none 0 0, .int .i64 0], []⟩ 8 (by kernel_rfl) (by kernel_rfl) (by kernel_rfl) (by kernel_rfl))
    Try.laidOut (show ∀ t ∈ [56, 3], Try.prog.readableRec t = true ∧ t < Try.prog.types.size from by
      intro t ht; simp only [List.mem_cons, List.not_mem_nil, or_false] at ht; rcases ht with rfl | rfl <;> exact ⟨by kernel_rfl, of_decide_eq_true (by kernel_rfl)⟩) (tb := 4) (by kernel_rfl) Try.underlying4 rfl (fun ds hd => ?_) ?_
  · match ds, hd with
    | [_, _], _ => rfl
  · intro W base args ds p hval hA
    have hval' : ∀ (j : Nat) t v, Try.f11.params[j]? = some t → args[j]? = some v → Value.okWide Try.prog W .any base t v := hval
    rw [Try.params11] at hA hval'
    obtain ⟨v0, v1, d0, d1, p0, p1, rfl, rfl, rfl, h0, h1⟩ := trodAll_two hA
    obtain ⟨A, n, c, l, rfl, hl, hc, _, _, hr⟩ := arg_list (f := tr) tr_len (by omega) (ok := fun _ => True) Try.underlying56 (by kernel_rfl) trip_of (hval' 0 _ _ rfl rfl) h0
    obtain ⟨h, rfl, w1⟩ := arg_int Try.underlying3 (hval' 1 _ _ rfl rfl) h1
    exact queues_walk A n c l h W hr hl (bounds_i64 w1).1

theorem pulseQueues_holds : Rows.PulseQueuesSaid :=
  OpenClaim.holds_of_wide 11 Try.f11 rfl rfl rfl rfl rfl rfl rfl ⟨rfl, rfl, rfl, rfl, rfl⟩ rfl rfl rfl rfl rfl (by kernel_rfl) Try.func11 (by kernel_rfl)
    (of_decide_eq_true (by kernel_rfl)) (by unfold Func.isWrapper; first | (rw [if_pos (by decide +kernel)]; kernel_rfl) | (rw [if_neg (by decide +kernel)]; exact ⟨rfl, rfl⟩))
    (fun os started H enc _ => pulseQueues_lifted os started H enc)
#print axioms pulseQueues_holds
end Go.Proofs.Ytkgkilogjodccaa
