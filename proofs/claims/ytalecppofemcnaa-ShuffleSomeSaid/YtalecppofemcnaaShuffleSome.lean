/-
  The law ShuffleSome holds: whatever the numbers and the stream, the call returns true and turns nothing. No condition.
-/
import Derived.Test.YtalecppofemcnaaRows
import Derived.Test.YtalecppofemcnaaFrame
import Derived.Test.YtalecppofemcnaaSome
import Derived.Test.YtalecppofemcnaaSomeRef
import Derived.Test.YtalecppofemcnaaShufAlive
import Derived.Test.YtalecppofemcnaaHas
namespace Go.Proofs.Ytalecppofemcnaa
open Go.ChangeShapes Go.WideShapes Go.ChangeAt Go.RowKit HB PickP ShufP
set_option linter.unusedVariables false
set_option linter.unusedSimpArgs false

/-- the boxes of two streams -/
def Two (b T : Nat) (A : Option Addr) (n c : Nat) (at_ cur : Int) (W : World) : Prop :=
  W.cell? ⟨b, 0, none⟩ = some (.slice A n c) ∧ W.cell? ⟨b, 1, none⟩ = some (.int .i64 at_) ∧ W.cell? ⟨T, 0, none⟩ = some (.slice A n c) ∧ W.cell? ⟨T, 1, none⟩ = some (.int .i64 cur)
theorem Two.below {b T : Nat} {A : Option Addr} {n c : Nat} {at_ cur : Int} {W w1 : World} (h : Two b T A n c at_ cur W) (hb : Below W.heap.size W w1) : Two b T A n c at_ cur w1 := by
  obtain ⟨k0, k1, k2, k3⟩ := h
  exact ⟨hold1 hb k0, hold1 hb k1, hold1 hb k2, hold1 hb k3⟩
theorem carry {b T : Nat} {A : Option Addr} {n c : Nat} {at_ cur : Int} {w V : World} {f : FuncId} {args : Array Value} {R : Ending → World → Prop} (hC : Calls Try.prog f args V fun e v => R e v ∧ Below V.heap.size V v) (hT : Two b T A n c at_ cur V) (hB : Below w.heap.size w V) :
    Calls Try.prog f args V fun e v => R e v ∧ Two b T A n c at_ cur v ∧ Below w.heap.size w v ∧ Below V.heap.size V v :=
  hC.mono fun e v h => ⟨h.1, hT.below h.2, then_ hB h.2 (Nat.le_refl _), h.2⟩
namespace ShufP
theorem lw_few {ws : List Int} {n k : Nat} {at_ : Int} (hl : ws.length = n) : (lw ws at_).length < k ↔ (0 < k ∧ (at_ < 0 ∨ (n : Int) < at_ + k)) := by
  unfold lw
  split
  · simp; omega
  · rw [List.length_drop]; omega
theorem lw_sme {ws : List Int} {n N k : Nat} {at_ : Int} (hl : ws.length = n) (h : 0 < k → 0 ≤ at_ ∧ at_ + k ≤ n) : sme (lw ws at_) 0 N k = sme ws at_.toNat N k := by
  rcases Nat.eq_zero_or_pos k with h1 | h1
  · subst h1; rfl
  · have := h h1
    unfold lw
    rw [if_neg (by omega), sme_drop]
theorem lw_mem {ws : List Int} {at_ : Int} {x : Int} (h : x ∈ lw ws at_) : x ∈ ws := by
  unfold lw at h
  split at h
  · cases h
  · exact List.mem_of_mem_drop h
theorem lw_len {ws : List Int} {at_ : Int} : (lw ws at_).length ≤ ws.length := by
  unfold lw
  split
  · simp
  · rw [List.length_drop]; omega
theorem take_new {l : List Int} {k i : Nat} {x : Int} (h : Inj l) (hik : i < k) (hx : (l.take k)[i]? = some x) : x ∉ (l.take k).take i := by
  intro hm
  obtain ⟨a, ha⟩ := List.mem_iff_getElem?.1 hm
  rw [List.getElem?_take] at ha
  split at ha
  · rename_i hai
    rw [List.getElem?_take] at ha hx
    split at ha
    · rw [if_pos hik] at hx
      have := h _ _ _ ha hx; omega
    · cases ha
  · cases ha
end ShufP
set_option maxRecDepth 100000 in
set_option maxHeartbeats 8000000 in
theorem some_main (A : Option Addr) (n c k N : Nat) (at_ : Int) (ws : List Int) (w : World) (hr : Rd w w.heap.size 1 A n (ws.map (Value.int .u32))) (hl : ws.length = n) (hw : ∀ x ∈ ws, (Lit.int .u32 x).wf = true) (hc : n ≤ c) (hn : n ≤ 1000) (hk : k ≤ N) (hN : N ≤ 300) (ha1 : -1099511627776 ≤ at_) (ha2 : at_ ≤ 1099511627776) :
    Calls Try.prog 5 #[.int .i64 k, .int .i64 N, Words.st A n c at_] w fun e w' => e = .returned (.bool true) ∧ Below w.heap.size w w' := by
  have Hl := hide hl
  have Hw := hide hw
  have HR := hide hr
  have hlw : ∀ x ∈ lw ws at_, (Lit.int .u32 x).wf = true := fun x hx => hw x (lw_mem hx)
  have HLW := hide hlw
  have hll : (lw ws at_).length ≤ 1000 := Nat.le_trans lw_len (by omega)
  have d0 : decide (300 < (N : Int)) = false := by simp; omega
  have d1 : decide (300 < N) = false := by simp; omega
  have d2 : decide (1000 < n) = false := by simp; omega
  have d3 : decide (N < k) = false := by simp; omega
  have d4 : decide (65536 < N) = false := by simp; omega
  clear hr hw hlw hl
  go_enter Try.func5, Try.ntmps5
  go_wp2_with fail
  have hb0 : Below w.heap.size w (w.alloc (Words.box A n c at_)) := by go_grown
  refine (shuffle_some A n c k N at_ ws _ ((HR.out.below hb0).mono hb0.size) Hl.out Hw.out hn hk hN).mono ?_; rintro e w1 ⟨hb1, ⟨hk0, hd, rfl⟩ | ⟨hcond, v, rfl, hown⟩⟩
  · have hbel := then_ hb0 hb1 (Nat.le_refl _)
    have k0 := hold1 hb1 (p := ⟨w.heap.size, 0, none⟩) (v := .slice A n c) (by simp [go_sem])
    have k1 := hold1 hb1 (p := ⟨w.heap.size, 1, none⟩) (v := .int .i64 at_) (by simp [go_sem])
    have hz1 := hb1.size
    simp at hz1
    have hTW := hide (show ∀ o : Obj, o = Words.box A n c at_ → Two w.heap.size w1.heap.size A n c at_ at_ (w1.alloc o) from fun o ho => by
      subst ho
      exact ⟨hold1 ((Below.refl _ _).alloc (Nat.le_refl _) _) k0, hold1 ((Below.refl _ _).alloc (Nat.le_refl _) _) k1, by simp [go_sem], by simp [go_sem]⟩)
    have HD := hide (show (lw ws at_).length < k from (lw_few Hl.out).2 ⟨hk0, hd⟩)
    have hsz := sizes (show w.heap.size < w1.heap.size by omega)
    clear hb1 hd hk0
    go_wp2_with fail
    refine (carry (left69 A n c w.heap.size at_ ws _ (HR.out.below (hbel.alloc (by omega) _)) (by simp; omega) Hl.out hc) (hTW.out _ rfl) (hbel.alloc (by omega) _)).mono ?_; rintro e v2 ⟨⟨A5, c5, rfl, hrd5⟩, hT, hB, hb⟩
    have HT := hide hT
    obtain ⟨k0, k1, k2, k3⟩ := hT
    clear hb
    go_wp2_with fail
    clear k0 k1 k2 k3
    refine (carry ((ref_some A5 k N (lw ws at_).length c5 w.heap.size (lw ws at_) _ hrd5 hB.size rfl HLW.out hll hN hk).mono (fun e v h => ⟨h.2, h.1⟩)) HT.out hB).mono ?_; rintro e v3 ⟨⟨_, rfl⟩ | ⟨hno, _⟩, hT, hB, hb⟩
    · have HT := hide hT
      obtain ⟨k0, k1, k2, k3⟩ := hT
      go_wp2_with fail
      clear k0 k1 k2 k3
      refine (carry (same69 A n c w.heap.size at_ at_ 0 ws (by omega) (by omega) (by omega) _ (HR.out.below hB) hB.size) HT.out hB).mono ?_; rintro e v4 ⟨rfl, hT, hB, hb⟩
      go_wp2_with (go_at_call 14; refine (shuf_alive _).mono ?_; rintro e w9 ⟨rfl, hb9⟩)
      go_ret
      exact ⟨rfl, then_ hB hb9 (Nat.le_refl _)⟩
    · exfalso; have := HD.out; omega
  · have hbel := then_ hb0 hb1 (Nat.le_refl _)
    have k0 := hold1 hb1 (p := ⟨w.heap.size, 0, none⟩) (v := .slice A n c) (by simp [go_sem])
    have k1 := hold1 hb1 (p := ⟨w.heap.size, 1, none⟩) (v := .int .i64 at_) (by simp [go_sem])
    have hz1 := hb1.size
    simp at hz1
    have hsh := hown.ints
    have hlk : ((sme ws at_.toNat N k).take k).length = k := by rw [List.length_take, sme_length]; omega
    rw [hlk] at hsh
    obtain ⟨A1, c1, rfl, hc1, hrd1⟩ := hsh
    have HLK := hide hlk
    have HCD := hide hcond
    have HIN := hide (show ∀ i x, i < k → ((sme ws at_.toNat N k).take k)[i]? = some x → x ∉ ((sme ws at_.toNat N k).take k).take i from fun i x hi hx => take_new (sme_inj (fun y hy => bounds_u32 (Hw.out y hy)) (by omega) k hk) hi hx)
    have hb1o : ∀ o : Obj, Below w1.heap.size w1 (w1.alloc o) := fun o => (Below.refl _ _).alloc (Nat.le_refl _) _
    have HRD := hide (fun o : Obj => hrd1.below (hb1o o))
    have hTW := hide (show ∀ o : Obj, o = Words.box A n c (at_ + (k : Int)) → Two w.heap.size w1.heap.size A n c at_ (at_ + (k : Int)) (w1.alloc o) from fun o ho => by
      subst ho
      exact ⟨hold1 ((Below.refl _ _).alloc (Nat.le_refl _) _) k0, hold1 ((Below.refl _ _).alloc (Nat.le_refl _) _) k1, by simp [go_sem], by simp [go_sem]⟩)
    have hsz := sizes (show w.heap.size < w1.heap.size by omega)
    clear hb1 hcond hown hrd1 hlk hb1o
    go_wp2_with fail
    refine (carry (left69 A n c w.heap.size at_ ws _ (HR.out.below (hbel.alloc (by omega) _)) (by simp; omega) Hl.out hc) (hTW.out _ rfl) (hbel.alloc (by omega) _)).mono ?_; rintro e v2 ⟨⟨A5, c5, rfl, hrd5⟩, hT, hB, hb⟩
    have HRD2 := hide ((HRD.out _).below (hb.mono (by simp)))
    have HT := hide hT
    have hz2 := hb.size
    simp only [World.size_alloc] at hz2
    obtain ⟨k0, k1, k2, k3⟩ := hT
    clear hb HRD hTW
    go_wp2_with fail
    clear k0 k1 k2 k3
    refine (carry ((ref_some A5 k N (lw ws at_).length c5 w.heap.size (lw ws at_) _ hrd5 hB.size rfl HLW.out hll hN hk).mono (fun e v h => ⟨h.2, h.1⟩)) HT.out hB).mono ?_; rintro e v3 ⟨⟨hno, _⟩ | ⟨_, A3, c3, rfl, hrd3, hc3⟩, hT, hB, hb⟩
    · exfalso
      obtain ⟨q0, q1⟩ := (lw_few Hl.out).1 hno
      have := HCD.out q0
      omega
    · rw [lw_sme Hl.out HCD.out] at hrd3
      have HRD3 := hide (HRD2.out.below (hb.mono (by omega)))
      have HRF := hide hrd3
      have hz3 := hb.size
      generalize (sme ws at_.toNat N k).take k = S at *
      have HT := hide hT
      clear hb hrd3 HRD2 hT
      go_wp2_with fail
      go_loopw [12] (fun i wr => ∃ q : Nat, q ≤ k ∧ i = .int .i64 q ∧ Below v3.heap.size v3 wr) (fun i _ => k - (intOf i).toNat)
      case atStart => exact ⟨0, Nat.zero_le _, rfl, Below.refl _ _⟩
      case round =>
        obtain ⟨q, hq, rfl, hbr⟩ := hrel
        have HBR := hide hbr
        by_cases hlt : q < k
        · have hrd := HRD3.out.below (hbr.mono (by omega))
          obtain ⟨b, off, x, rfl, hb, hg, e0⟩ := hrd.int_at HLK.out hlt
          have hnm := HIN.out q x hlt hg
          have HNM := hide (show decide (x ∈ S.take q) = false from by simpa using hnm)
          have HFR := hide (show Rd wr w1.heap.size 1 (some ⟨b, off, none⟩) q ((S.take q).map (Value.int .i64)) from by
            have := hrd.front hq
            rwa [Nat.mul_one, ← List.map_take] at this)
          have HLQ := hide (show (S.take q).length = q from by rw [List.length_take, HLK.out]; omega)
          have i0 : (0 : Int) ≤ (q : Int) := by omega
          have i1 : (q : Int) < (k : Int) := by omega
          have i2 : (q : Int) ≤ (c1 : Int) := by omega
          clear hbr hrd hg hnm
          go_wp2_with fail
          go_region_held3 (fun w' => w'.cell? ⟨b, off + q, none⟩ = some (.int .i64 x) ∧ Below wr.heap.size wr w')
            (first | (exact ⟨e0, (Below.refl _ _).drew⟩) | (go_split_ands; exact ⟨‹_›, ‹_›⟩))
            (first | (go_at_call 19; refine (has_int _ q _ w1.heap.size (S.take q) x _ (HFR.out.below ((Below.refl _ _).drew)) HLQ.out (by omega)).mono ?_; rintro e w4 ⟨rfl, rfl⟩; rw [HNM.out]))
          have HB5 := hide (show Below wr.heap.size wr _ from by go_split_ands; assumption)
          go_wp2_with fail
          go_roundw
          case rel => exact ⟨q + 1, by omega, by go_num, HBR.out.drew⟩
          case measure => simp [intOf]; omega
        · obtain rfl : q = k := by omega
          have HT2 := hide (HT.out.below hbr)
          have hB2 := then_ hB hbr (Nat.le_refl _)
          have HE1 := hide (HRD3.out.below (hbr.mono (by omega)))
          have HE2 := hide (HRF.out.below hbr)
          obtain ⟨k0, k1, k2, k3⟩ := HT2.out
          clear hbr
          go_wp2_with fail
          clear k0 k1 k2 k3
          refine (eqInt A1 A3 q q c1 c3 _ _ S S _ HE1.out HE2.out (by omega) (by omega)).mono ?_; rintro e v4 ⟨rfl, mm, rfl⟩
          simp only [decide_true]
          have hT := HT2.out.below (below_drewN (Below.refl _ _) mm)
          have hB := below_drewN hB2 mm
          have HT := hide hT
          obtain ⟨k0, k1, k2, k3⟩ := hT
          go_wp2_with fail
          clear k0 k1 k2 k3
          refine (carry (same69 A n c w.heap.size (at_ + (q : Int)) at_ (q : Int) ws (by omega) (by omega) (by omega) _ (HR.out.below hB) hB.size) HT.out hB).mono ?_; rintro e v5 ⟨rfl, hT, hB, hb⟩
          go_wp2_with (go_at_call 14; refine (shuf_alive _).mono ?_; rintro e w9 ⟨rfl, hb9⟩)
          go_ret
          exact ⟨rfl, then_ hB hb9 (Nat.le_refl _)⟩

set_option maxRecDepth 100000 in
set_option maxHeartbeats 8000000 in
theorem some_argw (A : Option Addr) (n c : Nat) (k N at_ : Int) (ws : List Int) (w : World) (hr : Rd w w.heap.size 1 A n (ws.map (Value.int .u32))) (hn : n ≤ 1000) (ha1 : -1099511627776 ≤ at_) (ha2 : at_ ≤ 1099511627776) (hN : N ≤ 300 ∨ 65536 < N) (hk : k < 0 ∨ N < k ∨ 65536 < N) :
    Calls Try.prog 5 #[.int .i64 k, .int .i64 N, Words.st A n c at_] w fun e w' => e = .returned (.bool true) ∧ Below w.heap.size w w' := by
  have HR := hide hr
  have HK := hide hk
  have d2 : decide (1000 < n) = false := by simp; omega
  clear hr
  have hcs : (N ≤ 300 ∨ (300 < N ∧ 65536 < N)) := by omega
  have hks : k < 0 ∨ (0 ≤ k ∧ N < k) ∨ (0 ≤ k ∧ k ≤ N ∧ 65536 < N) := by omega
  clear hN hk
  rcases hcs with h | ⟨h, h'⟩ <;> rcases hks with g | ⟨g, g'⟩ | ⟨g, g', g''⟩
  all_goals first | (exfalso; omega) | skip
  all_goals
    go_enter Try.func5, Try.ntmps5
    go_wp2_with fail
    refine (some_arg A n c at_ k N HK.out _).mono ?_; rintro e w1 ⟨rfl, hb1⟩
    have hbel := (show Below w.heap.size w _ from by go_grown).trans (hb1.mono (by simp))
    have k0 := hold1 hb1 (p := ⟨w.heap.size, 0, none⟩) (v := .slice A n c) (by simp [go_sem])
    have k1 := hold1 hb1 (p := ⟨w.heap.size, 1, none⟩) (v := .int .i64 at_) (by simp [go_sem])
    have hz1 := hb1.size
    simp at hz1
    have hsz := sizes (show w.heap.size < w1.heap.size by omega)
    clear hb1
    go_wp2_with fail
    refine (same69 A n c w.heap.size at_ at_ 0 ws (by omega) (by omega) (by omega) _ (HR.out.below (hbel.alloc (by omega) _)) (by simp; omega)).mono ?_; rintro e v8 ⟨rfl, hb8⟩
    go_wp2_with (go_at_call 14; refine (shuf_alive _).mono ?_; rintro e w9 ⟨rfl, hb9⟩)
    go_ret
    exact ⟨rfl, then_ (then_ (hbel.alloc (by omega) _) hb8 (Nat.le_refl _)) hb9 (Nat.le_refl _)⟩
set_option maxRecDepth 100000 in
set_option maxHeartbeats 8000000 in
theorem some_great (A : Option Addr) (n c : Nat) (k N at_ : Int) (w : World) (h : (300 < N ∧ N ≤ 65536) ∨ 1000 < n ∨ at_ < -1099511627776 ∨ 1099511627776 < at_) :
    Calls Try.prog 5 #[.int .i64 k, .int .i64 N, Words.st A n c at_] w fun e w' => e = .returned (.bool true) ∧ Below w.heap.size w w' := by
  have hN : (300 < N ∧ N ≤ 65536) ∨ (N ≤ 300) ∨ (300 < N ∧ 65536 < N) := by omega
  rcases hN with ⟨h1, h2⟩ | hN
  · clear h
    go_enter Try.func5, Try.ntmps5
    go_wp2_with fail
    go_ret
    exact ⟨rfl, by go_grown⟩
  · have h2 : 1000 < n ∨ (n ≤ 1000 ∧ at_ < -1099511627776) ∨ (n ≤ 1000 ∧ -1099511627776 ≤ at_ ∧ 1099511627776 < at_) := by omega
    clear h
    rcases h2 with h3 | ⟨h3, h5⟩ | ⟨h3, h5, h6⟩
    · have d2 : decide (1000 < n) = true := by simpa using h3
      rcases hN with h1 | ⟨h1, h2⟩
      all_goals
        go_enter Try.func5, Try.ntmps5
        go_wp2_with fail
        go_ret
        exact ⟨rfl, by go_grown⟩
    · have d2 : decide (1000 < n) = false := by simp; omega
      rcases hN with h1 | ⟨h1, h2⟩
      all_goals
        go_enter Try.func5, Try.ntmps5
        go_wp2_with fail
        go_ret
        exact ⟨rfl, by go_grown⟩
    · have d2 : decide (1000 < n) = false := by simp; omega
      rcases hN with h1 | ⟨h1, h2⟩
      all_goals
        go_enter Try.func5, Try.ntmps5
        go_wp2_with fail
        go_ret
        exact ⟨rfl, by go_grown⟩
theorem some_walk (A : Option Addr) (n c : Nat) (k N at_ : Int) (ws : List Int) (w : World) (hr : Rd w w.heap.size 1 A n (ws.map (Value.int .u32))) (hl : ws.length = n) (hw : ∀ x ∈ ws, (Lit.int .u32 x).wf = true) (hc : n ≤ c) :
    Calls Try.prog 5 #[.int .i64 k, .int .i64 N, Words.st A n c at_] w fun e w' => e = .returned (.bool true) ∧ Below w.heap.size w w' := by
  by_cases h : (300 < N ∧ N ≤ 65536) ∨ 1000 < n ∨ at_ < -1099511627776 ∨ 1099511627776 < at_
  · exact some_great A n c k N at_ w h
  · by_cases h2 : k < 0 ∨ N < k ∨ 65536 < N
    · exact some_argw A n c k N at_ ws w hr (by omega) (by omega) (by omega) (by omega) h2
    · obtain ⟨K, rfl⟩ := Int.eq_ofNat_of_zero_le (show 0 ≤ k by omega)
      obtain ⟨M, rfl⟩ := Int.eq_ofNat_of_zero_le (show 0 ≤ N by omega)
      exact some_main A n c K M at_ ws w hr hl hw hc (by omega) (by omega) (by omega) (by omega) (by omega)

set_option maxRecDepth 100000 in
theorem shuffleSome_lifted (os : Os) (started : os.Started) (H : Type) (enc : TypeId × Value → H) :
    ReturnsInHanded {} Try.checked os 5 .any (Rows.shuffleSomeSpec.pre6 enc Try.prog Try.f5 [] false) (Rows.shuffleSomeSpec.post enc Try.prog Try.f5 false true false false) := by
  refine law_lifted (C := Try.checked) Try.own started (by kernel_rfl) Try.func5
    (ChangeSpec.witness6 (enc := enc) (C := Try.checked) false ⟨#[], #[.int .i64 0, .int .i64 0, .agg #[.slice none 0 0, .int .i64 0]], []⟩ 8 (by kernel_rfl) (by kernel_rfl) (by kernel_rfl) (by kernel_rfl))
    Try.laidOut (show ∀ t ∈ [3, 3, 24], Try.prog.readableRec t = true ∧ t < Try.prog.types.size from by
      intro t ht; simp only [List.mem_cons, List.not_mem_nil, or_false] at ht; rcases ht with rfl | rfl | rfl <;> exact ⟨by kernel_rfl, of_decide_eq_true (by kernel_rfl)⟩) (tb := 4) (by kernel_rfl) Try.underlying4 rfl (fun ds hd => ?_) ?_
  · match ds, hd with
    | [_, _, _], _ => rfl
  · intro W base args ds p hval hA
    have hval' : ∀ (j : Nat) t v, Try.f5.params[j]? = some t → args[j]? = some v → Value.okWide Try.prog W .any base t v := hval
    rw [Try.params5] at hA hval'
    obtain ⟨v0, v1, v2, d0, d1, d2, p0, p1, p2, rfl, rfl, rfl, h0, h1, h2⟩ := trodAll_three hA
    obtain ⟨k, rfl, wk⟩ := arg_int Try.underlying3 (hval' 0 _ _ rfl rfl) h0
    obtain ⟨N, rfl, wN⟩ := arg_int Try.underlying3 (hval' 1 _ _ rfl rfl) h1
    obtain ⟨us, m, rfl, hul, huf⟩ := arg_struct Try.underlying24 (by kernel_rfl) (by kernel_rfl) (hval' 2 _ _ rfl rfl) h2
    obtain ⟨A, n, c, ws, a1, rfl, hl, hc, hw, hr⟩ : ∃ (A : Option Addr) (n c : Nat) (ws : List Int) (a1 : Int), us = [.slice A n c, .int .i64 a1] ∧ ws.length = n ∧ n ≤ c ∧ (∀ x ∈ ws, (Lit.int .u32 x).wf = true) ∧ Rd W W.heap.size 1 A n (ws.map (Value.int .u32)) := by
      match us, hul with
      | [u0, u1], _ =>
        obtain ⟨y0, t0⟩ := huf 0 _ u0 rfl rfl
        obtain ⟨y1, t1⟩ := huf 1 _ u1 rfl rfl
        obtain ⟨A, n, c, l, e0, hl, hc, _, hw, hr⟩ := open_list (f := fun z => [Value.int .u32 z]) (m := 1) (fun _ => rfl) (by omega) (ok := fun z => (Lit.int .u32 z).wf = true) Try.underlying22 (by kernel_rfl)
          (fun n cs' y hy => by obtain ⟨z, h1, _, h2⟩ := DataW.trod_int Try.underlying63 hy; exact ⟨z, h1, h2⟩) t0
        obtain ⟨z, e1, _, _⟩ := DataW.trod_int Try.underlying3 t1
        simp only [List.cons.injEq, and_true] at e0 e1
        subst e0; subst e1
        rw [map_flat] at hr
        exact ⟨A, n, c, l, z, rfl, hl, hc, hw, hr⟩
    exact some_walk A n c k N a1 ws W hr hl hw hc

theorem shuffleSome_holds : Rows.ShuffleSomeSaid :=
  OpenClaim.holds_of_wide 5 Try.f5 rfl rfl rfl rfl rfl rfl rfl ⟨rfl, rfl, rfl, rfl, rfl⟩ rfl rfl rfl rfl rfl (by kernel_rfl) Try.func5 (by kernel_rfl)
    (of_decide_eq_true (by kernel_rfl)) (by unfold Func.isWrapper; first | (rw [if_pos (by decide +kernel)]; kernel_rfl) | (rw [if_neg (by decide +kernel)]; exact ⟨rfl, rfl⟩))
    (fun os started H enc _ => shuffleSome_lifted os started H enc)
#print axioms shuffleSome_holds
end Go.Proofs.Ytalecppofemcnaa
