/-
  The law ShuffleOrders holds: whatever the number, the stream and the things, the call returns true and turns nothing. No condition.
-/
import Derived.Test.YtalecppofemcnaaRows
import Derived.Test.YtalecppofemcnaaFrame
import Derived.Test.YtalecppofemcnaaShufOf
import Derived.Test.YtalecppofemcnaaShufAlive
namespace Go.Proofs.Ytalecppofemcnaa
open Go.ChangeShapes Go.WideShapes Go.ChangeAt Go.RowKit HB PickP ShufP
set_option linter.unusedVariables false
set_option linter.unusedSimpArgs false

/-- the boxes of two streams -/
def Two (b T : Nat) (A : Option Addr) (n c : Nat) (at_ cur : Int) (W : World) : Prop :=
  W.cell? ⟨b, 0, none⟩ = some (.slice A n c) ∧ W.cell? ⟨b, 1, none⟩ = some (.int .i64 at_) ∧ W.cell? ⟨T, 0, none⟩ = some (.slice A n c) ∧ W.cell? ⟨T, 1, none⟩ = some (.int .i64 cur)
theorem Two.below {b T : Nat} {A : Option Addr} {n c : Nat} {at_ cur : Int} {W w1 : World} (h : Two b T A n c at_ cur W) (hb : Below W.heap.size W w1) : Two b T A n c at_ cur w1 := by
  obtain ⟨k0, k1, k2, k3⟩ := h
  exact ⟨hold1 hb k0, hold1 hb k1, hold1 hb k2, hold1 hb k3⟩
theorem carry {b T : Nat} {A : Option Addr} {n c : Nat} {at_ cur : Int} {w V : World} {f : FuncId} {args : Array Value} {R : Ending → World → Prop} (hC : Calls Try.prog f args V fun e v => R e v ∧ Below V.heap.size V v) (hT : Two b T A n c at_ cur V) (hB : Below w.heap.size w V) :
    Calls Try.prog f args V fun e v => R e v ∧ Two b T A n c at_ cur v ∧ Below w.heap.size w v ∧ Below V.heap.size V v :=
  hC.mono fun e v h => ⟨h.1, hT.below h.2, then_ hB h.2 (Nat.le_refl _), h.2⟩
namespace ShufP
theorem lw_dry {ws : List Int} {n m : Nat} {at_ : Int} (hl : ws.length = n) : ((lw ws at_).length + 1 < m) ↔ (1 < m ∧ (at_ < 0 ∨ (n : Int) < at_ + m - 1)) := by
  unfold lw
  split
  · simp; omega
  · rw [List.length_drop]; omega
theorem lw_ord {ws : List Int} {n m : Nat} {at_ : Int} (hl : ws.length = n) (h : 1 < m → 0 ≤ at_ ∧ at_ + m - 1 ≤ n) : ord (lw ws at_) 0 m (m - 1) = ord ws at_.toNat m (m - 1) := by
  rcases Nat.lt_or_ge 1 m with h1 | h1
  · have := h h1
    unfold lw
    rw [if_neg (by omega), ord_drop]
  · exact ord_few _ _ _ _ _ h1 _ (Nat.le_refl _)
theorem lw_mem {ws : List Int} {at_ : Int} {x : Int} (h : x ∈ lw ws at_) : x ∈ ws := by
  unfold lw at h
  split at h
  · cases h
  · exact List.mem_of_mem_drop h
theorem lw_len {ws : List Int} {at_ : Int} : (lw ws at_).length ≤ ws.length := by
  unfold lw
  split
  · simp
  · rw [List.length_drop]; omega
end ShufP
set_option maxRecDepth 100000 in
set_option maxHeartbeats 8000000 in
theorem orders_main (A A' : Option Addr) (n c m m' c' : Nat) (at_ : Int) (ws : List Int) (things : List ByteArray) (w : World) (hr : Rd w w.heap.size 1 A n (ws.map (Value.int .u32))) (hl : ws.length = n) (hw : ∀ x ∈ ws, (Lit.int .u32 x).wf = true) (hc : n ≤ c)
    (hr' : Rd w w.heap.size 1 A' m' (things.flatMap str)) (hl' : things.length = m') (hn : n ≤ 1000) (hm : m ≤ 300) (hm' : m' ≤ 300) (ha1 : -1099511627776 ≤ at_) (ha2 : at_ ≤ 1099511627776) :
    Calls Try.prog 3 #[.int .i64 m, Words.st A n c at_, .slice A' m' c'] w fun e w' => e = .returned (.bool true) ∧ Below w.heap.size w w' := by
  have Hl := hide hl
  have Hw := hide hw
  have HR := hide hr
  have Hl' := hide hl'
  have HR' := hide hr'
  have HLW := hide (show ∀ x ∈ lw ws at_, (Lit.int .u32 x).wf = true from fun x hx => hw x (lw_mem hx))
  have hlw : (lw ws at_).length ≤ 1000 := by have := lw_len (ws := ws) (at_ := at_); omega
  have d1 : decide (300 < m) = false := by simp; omega
  have d2 : decide (1000 < n) = false := by simp; omega
  have d3 : decide (300 < m') = false := by simp; omega
  have d4 : decide ((65536 : Int) < (m : Int)) = false := by simp; omega
  have d5 : decide (65536 < m) = false := by simp; omega
  clear hl hw hr hl' hr'
  go_enter Try.func3, Try.ntmps3
  go_wp2_with fail
  refine (order_any A n c m at_ ws _ ((HR.out.alloc (Nat.le_refl _) _).mono (by simp)) Hl.out Hw.out hn hm).mono ?_; rintro e w1 ⟨hb1, ⟨hd1, hd2, rfl⟩ | ⟨hd1, v, rfl, hown⟩⟩
  · have hbel := (show Below w.heap.size w _ from by go_grown).trans (hb1.mono (by simp))
    have k0 := hold1 hb1 (p := ⟨w.heap.size, 0, none⟩) (v := .slice A n c) (by simp [go_sem])
    have k1 := hold1 hb1 (p := ⟨w.heap.size, 1, none⟩) (v := .int .i64 at_) (by simp [go_sem])
    have hz1 := hb1.size
    simp at hz1
    have HD := hide ((lw_dry Hl.out).2 ⟨hd1, hd2⟩)
    have hTW := hide (show ∀ o : Obj, o = Words.box A n c at_ → Two w.heap.size w1.heap.size A n c at_ at_ (w1.alloc o) from fun o ho => by
      subst ho
      exact ⟨hold1 ((Below.refl _ _).alloc (Nat.le_refl _) _) k0, hold1 ((Below.refl _ _).alloc (Nat.le_refl _) _) k1, by simp [go_sem], by simp [go_sem]⟩)
    have hsz := sizes (show w.heap.size < w1.heap.size by omega)
    clear hb1 hd2
    go_wp2_with fail
    refine (carry (left69 A n c w.heap.size at_ ws _ (HR.out.below (hbel.alloc (by omega) _)) (by simp; omega) Hl.out hc) (hTW.out _ rfl) (hbel.alloc (by omega) _)).mono ?_; rintro e v2 ⟨⟨A5, c5, rfl, hrd5⟩, hT, hB, hz⟩
    have HT := hide hT
    obtain ⟨k0, k1, k2, k3⟩ := hT
    go_wp2_with fail
    clear k0 k1 k2 k3
    refine (carry ((ref_order A5 m (lw ws at_).length c5 w.heap.size (lw ws at_) _ hrd5 hB.size rfl HLW.out hlw hm).mono (fun e v h => ⟨h.2, h.1⟩)) HT.out hB).mono ?_; rintro e v3 ⟨⟨_, rfl⟩ | ⟨hno, _⟩, hT, hB, hb⟩
    · have HT := hide hT
      obtain ⟨k0, k1, k2, k3⟩ := hT
      go_wp2_with fail
      clear k0 k1 k2 k3
      refine (carry (same69 A n c w.heap.size at_ at_ 0 ws (by omega) (by omega) (by omega) _ (HR.out.below hB) hB.size) HT.out hB).mono ?_; rintro e v4 ⟨rfl, hT, hB, hb⟩
      have HT := hide hT
      obtain ⟨k0, k1, k2, k3⟩ := hT
      go_wp2_with fail
      clear k0 k1 k2 k3
      refine (carry (left69 A n c w.heap.size at_ ws _ (HR.out.below hB) hB.size Hl.out hc) HT.out hB).mono ?_; rintro e v5 ⟨⟨A6, c6, rfl, hrd6⟩, hT, hB, hb⟩
      have HT := hide hT
      obtain ⟨k0, k1, k2, k3⟩ := hT
      go_wp2_with fail
      clear k0 k1 k2 k3
      refine (carry ((ref_order A6 m' (lw ws at_).length c6 w.heap.size (lw ws at_) _ hrd6 hB.size rfl HLW.out hlw hm').mono (fun e v h => ⟨h.2, h.1⟩)) HT.out hB).mono ?_; rintro e v6 ⟨⟨hd6, rfl⟩ | ⟨hd6, o6, rfl, hown6⟩, hT, hB, hb⟩
      · have HT := hide hT
        obtain ⟨k0, k1, k2, k3⟩ := hT
        go_wp2_with fail
        clear k0 k1 k2 k3
        refine (carry ((shuffle_of A A' n c m' c' at_ ws things _ ((HR.out.below hB).mono hB.size) Hl.out Hw.out ((HR'.out.below hB).mono hB.size) Hl'.out hn hm').mono (fun e v h => ⟨h.2, h.1⟩)) HT.out hB).mono ?_; rintro e v7 ⟨⟨_, _, rfl⟩ | ⟨hno, _⟩, hT, hB, hb⟩
        · have hsz7 := sizes (show w.heap.size < v7.heap.size by have := World.block_lt_of_cell? _ _ hT.1; exact this)
          have HT := hide hT
          obtain ⟨k0, k1, k2, k3⟩ := hT
          go_wp2_with fail
          clear k0 k1 k2 k3
          refine (same69 A n c w.heap.size at_ at_ 0 ws (by omega) (by omega) (by omega) _ (HR.out.below (hB.alloc (by omega) _)) (by simp; omega)).mono ?_; rintro e v8 ⟨rfl, hb8⟩
          go_wp2_with (go_at_call 14; refine (shuf_alive _).mono ?_; rintro e w9 ⟨rfl, hb9⟩)
          go_ret
          exact ⟨rfl, then_ (then_ (hB.alloc (by omega) _) hb8 (Nat.le_refl _)) hb9 (Nat.le_refl _)⟩
        · exfalso
          have := (lw_dry Hl.out).1 hd6
          omega
      · have hcond : 1 < m' → 0 ≤ at_ ∧ at_ + m' - 1 ≤ n := fun h1 => by
          by_cases h2 : at_ < 0 ∨ (n : Int) < at_ + m' - 1
          · have := (lw_dry (m := m') Hl.out).2 ⟨h1, h2⟩; omega
          · omega
        rw [lw_ord Hl.out hcond] at hown6
        have hsh6 := hown6.ints
        rw [ord_length] at hsh6
        obtain ⟨A7, c7, rfl, hc7, hrd7⟩ := hsh6
        have hmem := ord_mem ws at_.toNat m' (m' - 1)
        have hol := ord_length ws at_.toNat m' (m' - 1)
        have HCOND := hide hcond
        have HMEM := hide hmem
        have HOL := hide hol
        have HRD7 := hide hrd7
        clear hcond hmem hol hown6 hrd7
        have HT := hide hT
        obtain ⟨k0, k1, k2, k3⟩ := hT
        go_wp2_with fail
        clear k0 k1 k2 k3
        refine (carry ((shuffle_of A A' n c m' c' at_ ws things _ ((HR.out.below hB).mono hB.size) Hl.out Hw.out ((HR'.out.below hB).mono hB.size) Hl'.out hn hm').mono (fun e v h => ⟨h.2, h.1⟩)) HT.out hB).mono ?_; rintro e v7 ⟨⟨hy1, hy2, _⟩ | ⟨_, x, rfl, hownx⟩, hT, hB, hb⟩
        · exfalso; have := HCOND.out hy1; omega
        · have hsz7 := sizes (show w.heap.size < v7.heap.size by have := World.block_lt_of_cell? _ _ hT.1; exact this)
          have hshx := hownx.shape
          rw [pick_length, HOL.out] at hshx
          obtain ⟨A8, c8, rfl, hc8, hrd8⟩ := hshx
          have HRD8 := hide hrd8
          have HRD9 := hide (HRD7.out.below hb)
          generalize ord ws at_.toNat m' (m' - 1) = O at *
          have d6 : ((m' : Int) != (m' : Int)) = false := by simp
          have hz67 := hb.size
          clear hrd8 hownx hb HRD7
          have HT := hide hT
          obtain ⟨k0, k1, k2, k3⟩ := hT
          go_wp2_with fail
          clear k0 k1 k2 k3
          clear d6
          refine (same69 A n c w.heap.size (at_ + ((m' - 1 : Nat) : Int)) at_ ((m' - 1 : Nat) : Int) ws (by omega) (by omega) (by omega) _ (HR.out.below (hB.alloc (by omega) _)) (by simp; omega)).mono ?_; rintro e v8 ⟨rfl, hb8⟩
          have hba : ∀ o : Obj, Below v7.heap.size v7 (v7.alloc o) := fun o => (Below.refl _ _).alloc (Nat.le_refl _) _
          have hb78 := then_ (hba _) hb8 (Nat.le_refl _)
          have hB8 := then_ hB hb78 (Nat.le_refl _)
          have HRO := hide (HRD9.out.below (hb78.mono hz67))
          have HRX := hide (HRD8.out.below hb78)
          have HRT := hide (HR'.out.below hB8)
          have hB8' := hB8.size
          have hz78 := hb78.size
          clear hba HRD8 HRD9 hb8 HT
          go_wp2_with fail
          go_loopw [19] (fun i wr => ∃ q : Nat, q ≤ m' ∧ i = .int .i64 q ∧ Below v8.heap.size v8 wr) (fun i _ => m' - (intOf i).toNat)
          case atStart => exact ⟨0, Nat.zero_le _, rfl, Below.refl _ _⟩
          case round =>
            obtain ⟨q, hq, rfl, hbel⟩ := hrel
            by_cases hlt : q < m'
            · obtain ⟨b1, off1, x1, rfl, hb1', hg1, e1⟩ := (HRO.out.below (hbel.mono (by omega))).int_at HOL.out hlt
              obtain ⟨y0, y1⟩ := HMEM.out x1 (List.mem_of_getElem? hg1)
              obtain ⟨i, rfl⟩ := Int.eq_ofNat_of_zero_le y0
              obtain ⟨b2, off2, s2, rfl, hb2', hg2, e2⟩ := (HRT.out.below (hbel.mono hB8')).str_at Hl'.out (show i < m' by omega)
              obtain ⟨b3, off3, s3, rfl, hb3', hg3, e3⟩ := (HRX.out.below (hbel.mono hz78)).str_at (by rw [pick_length, HOL.out]) hlt
              obtain rfl : s3 = s2 := by
                have h : (pick things O)[q]? = some s2 := by simp [pick, hg1, hg2]
                rw [hg3] at h; exact Option.some.inj h
              have i0 : (0 : Int) ≤ (i : Int) := by omega
              have i1 : (i : Int) < (m' : Int) := by omega
              have i2 : (0 : Int) ≤ (q : Int) := by omega
              have i3 : (q : Int) < (m' : Int) := by omega
              clear hg1 hg2 hg3
              go_wp2_with fail
              go_quiet (fail)
              go_wp2_with fail
              go_roundw
              case rel => exact ⟨q + 1, by omega, by go_num, below_drewN hbel _⟩
              case measure => simp [intOf]; omega
            · obtain rfl : q = m' := by omega
              go_wp2_with (go_at_call 14; refine (shuf_alive _).mono ?_; rintro e w9 ⟨rfl, hb9⟩)
              go_ret
              exact ⟨rfl, then_ (then_ hB8 hbel (Nat.le_refl _)) hb9 (Nat.le_refl _)⟩
    · exfalso; have := HD.out; omega
  · have hbel := (show Below w.heap.size w _ from by go_grown).trans (hb1.mono (by simp))
    have k0 := hold1 hb1 (p := ⟨w.heap.size, 0, none⟩) (v := .slice A n c) (by simp [go_sem])
    have k1 := hold1 hb1 (p := ⟨w.heap.size, 1, none⟩) (v := .int .i64 at_) (by simp [go_sem])
    have hz1 := hb1.size
    simp at hz1
    have HD0 := hide hd1
    have hsh := hown.ints
    rw [ord_length] at hsh
    obtain ⟨A1, c1, rfl, hc1, hrd1⟩ := hsh
    have HRD1 := hide hrd1
    have hTW := hide (show ∀ o : Obj, o = Words.box A n c (at_ + ((m - 1 : Nat) : Int)) → Two w.heap.size w1.heap.size A n c at_ (at_ + ((m - 1 : Nat) : Int)) (w1.alloc o) from fun o ho => by
      subst ho
      exact ⟨hold1 ((Below.refl _ _).alloc (Nat.le_refl _) _) k0, hold1 ((Below.refl _ _).alloc (Nat.le_refl _) _) k1, by simp [go_sem], by simp [go_sem]⟩)
    have hsz := sizes (show w.heap.size < w1.heap.size by omega)
    clear hb1 hd1 hown hrd1
    go_wp2_with fail
    have hb1a : Below w1.heap.size w1 (w1.alloc (Words.box A n c (at_ + ((m - 1 : Nat) : Int)))) := by go_grown
    refine (carry (left69 A n c w.heap.size at_ ws _ (HR.out.below (hbel.alloc (by omega) _)) (by simp; omega) Hl.out hc) (hTW.out _ rfl) (hbel.alloc (by omega) _)).mono ?_; rintro e v2 ⟨⟨A5, c5, rfl, hrd5⟩, hT, hB, hb⟩
    have hb12 := then_ hb1a hb (Nat.le_refl _)
    have HT := hide hT
    obtain ⟨k0, k1, k2, k3⟩ := hT
    clear hb1a
    go_wp2_with fail
    clear k0 k1 k2 k3
    refine (carry ((ref_order A5 m (lw ws at_).length c5 w.heap.size (lw ws at_) _ hrd5 hB.size rfl HLW.out hlw hm).mono (fun e v h => ⟨h.2, h.1⟩)) HT.out hB).mono ?_; rintro e v3 ⟨⟨hno, _⟩ | ⟨_, o, rfl, hown3⟩, hT, hB, hb⟩
    · exfalso
      have := (lw_dry Hl.out).1 hno
      have := HD0.out
      omega
    · have hb13 := then_ hb12 hb (Nat.le_refl _)
      rw [lw_ord Hl.out HD0.out] at hown3
      have hsh3 := hown3.ints
      rw [ord_length] at hsh3
      obtain ⟨A3, c3, rfl, hc3, hrd3⟩ := hsh3
      have HE1 := hide (HRD1.out.below hb13)
      have HE2 := hide hrd3
      generalize ord ws at_.toNat m (m - 1) = O1 at *
      have HT := hide hT
      obtain ⟨k0, k1, k2, k3⟩ := hT
      clear hown3 hrd3 hb HRD1
      go_wp2_with fail
      clear k0 k1 k2 k3
      refine (eqInt A1 A3 m m c1 c3 _ _ O1 O1 _ HE1.out HE2.out (by omega) (by omega)).mono ?_; rintro e v3 ⟨rfl, mm, rfl⟩
      simp only [decide_true]
      have hT := HT.out.below (below_drewN (Below.refl _ _) mm)
      have hB := below_drewN hB mm
      have HT := hide hT
      obtain ⟨k0, k1, k2, k3⟩ := hT
      go_wp2_with fail
      clear k0 k1 k2 k3
      refine (carry (same69 A n c w.heap.size (at_ + ((m - 1 : Nat) : Int)) at_ ((m - 1 : Nat) : Int) ws (by omega) (by omega) (by omega) _ (HR.out.below hB) hB.size) HT.out hB).mono ?_; rintro e v4 ⟨rfl, hT, hB, hb⟩
      have HT := hide hT
      obtain ⟨k0, k1, k2, k3⟩ := hT
      go_wp2_with fail
      clear k0 k1 k2 k3
      refine (carry (left69 A n c w.heap.size at_ ws _ (HR.out.below hB) hB.size Hl.out hc) HT.out hB).mono ?_; rintro e v5 ⟨⟨A6, c6, rfl, hrd6⟩, hT, hB, hb⟩
      have HT := hide hT
      obtain ⟨k0, k1, k2, k3⟩ := hT
      go_wp2_with fail
      clear k0 k1 k2 k3
      refine (carry ((ref_order A6 m' (lw ws at_).length c6 w.heap.size (lw ws at_) _ hrd6 hB.size rfl HLW.out hlw hm').mono (fun e v h => ⟨h.2, h.1⟩)) HT.out hB).mono ?_; rintro e v6 ⟨⟨hd6, rfl⟩ | ⟨hd6, o6, rfl, hown6⟩, hT, hB, hb⟩
      · have HT := hide hT
        obtain ⟨k0, k1, k2, k3⟩ := hT
        go_wp2_with fail
        clear k0 k1 k2 k3
        refine (carry ((shuffle_of A A' n c m' c' at_ ws things _ ((HR.out.below hB).mono hB.size) Hl.out Hw.out ((HR'.out.below hB).mono hB.size) Hl'.out hn hm').mono (fun e v h => ⟨h.2, h.1⟩)) HT.out hB).mono ?_; rintro e v7 ⟨⟨_, _, rfl⟩ | ⟨hno, _⟩, hT, hB, hb⟩
        · have hsz7 := sizes (show w.heap.size < v7.heap.size by have := World.block_lt_of_cell? _ _ hT.1; exact this)
          have HT := hide hT
          obtain ⟨k0, k1, k2, k3⟩ := hT
          go_wp2_with fail
          clear k0 k1 k2 k3
          refine (same69 A n c w.heap.size at_ at_ 0 ws (by omega) (by omega) (by omega) _ (HR.out.below (hB.alloc (by omega) _)) (by simp; omega)).mono ?_; rintro e v8 ⟨rfl, hb8⟩
          go_wp2_with (go_at_call 14; refine (shuf_alive _).mono ?_; rintro e w9 ⟨rfl, hb9⟩)
          go_ret
          exact ⟨rfl, then_ (then_ (hB.alloc (by omega) _) hb8 (Nat.le_refl _)) hb9 (Nat.le_refl _)⟩
        · exfalso
          have := (lw_dry Hl.out).1 hd6
          omega
      · have hcond : 1 < m' → 0 ≤ at_ ∧ at_ + m' - 1 ≤ n := fun h1 => by
          by_cases h2 : at_ < 0 ∨ (n : Int) < at_ + m' - 1
          · have := (lw_dry (m := m') Hl.out).2 ⟨h1, h2⟩; omega
          · omega
        rw [lw_ord Hl.out hcond] at hown6
        have hsh6 := hown6.ints
        rw [ord_length] at hsh6
        obtain ⟨A7, c7, rfl, hc7, hrd7⟩ := hsh6
        have hmem := ord_mem ws at_.toNat m' (m' - 1)
        have hol := ord_length ws at_.toNat m' (m' - 1)
        have HCOND := hide hcond
        have HMEM := hide hmem
        have HOL := hide hol
        have HRD7 := hide hrd7
        clear hcond hmem hol hown6 hrd7
        have HT := hide hT
        obtain ⟨k0, k1, k2, k3⟩ := hT
        go_wp2_with fail
        clear k0 k1 k2 k3
        refine (carry ((shuffle_of A A' n c m' c' at_ ws things _ ((HR.out.below hB).mono hB.size) Hl.out Hw.out ((HR'.out.below hB).mono hB.size) Hl'.out hn hm').mono (fun e v h => ⟨h.2, h.1⟩)) HT.out hB).mono ?_; rintro e v7 ⟨⟨hy1, hy2, _⟩ | ⟨_, x, rfl, hownx⟩, hT, hB, hb⟩
        · exfalso; have := HCOND.out hy1; omega
        · have hsz7 := sizes (show w.heap.size < v7.heap.size by have := World.block_lt_of_cell? _ _ hT.1; exact this)
          have hshx := hownx.shape
          rw [pick_length, HOL.out] at hshx
          obtain ⟨A8, c8, rfl, hc8, hrd8⟩ := hshx
          have HRD8 := hide hrd8
          have HRD9 := hide (HRD7.out.below hb)
          generalize ord ws at_.toNat m' (m' - 1) = O at *
          have d6 : ((m' : Int) != (m' : Int)) = false := by simp
          have hz67 := hb.size
          clear hrd8 hownx hb HRD7
          have HT := hide hT
          obtain ⟨k0, k1, k2, k3⟩ := hT
          go_wp2_with fail
          clear k0 k1 k2 k3
          clear d6
          refine (same69 A n c w.heap.size (at_ + ((m' - 1 : Nat) : Int)) at_ ((m' - 1 : Nat) : Int) ws (by omega) (by omega) (by omega) _ (HR.out.below (hB.alloc (by omega) _)) (by simp; omega)).mono ?_; rintro e v8 ⟨rfl, hb8⟩
          have hba : ∀ o : Obj, Below v7.heap.size v7 (v7.alloc o) := fun o => (Below.refl _ _).alloc (Nat.le_refl _) _
          have hb78 := then_ (hba _) hb8 (Nat.le_refl _)
          have hB8 := then_ hB hb78 (Nat.le_refl _)
          have HRO := hide (HRD9.out.below (hb78.mono hz67))
          have HRX := hide (HRD8.out.below hb78)
          have HRT := hide (HR'.out.below hB8)
          have hB8' := hB8.size
          have hz78 := hb78.size
          clear hba HRD8 HRD9 hb8 HT
          go_wp2_with fail
          go_loopw [19] (fun i wr => ∃ q : Nat, q ≤ m' ∧ i = .int .i64 q ∧ Below v8.heap.size v8 wr) (fun i _ => m' - (intOf i).toNat)
          case atStart => exact ⟨0, Nat.zero_le _, rfl, Below.refl _ _⟩
          case round =>
            obtain ⟨q, hq, rfl, hbel⟩ := hrel
            by_cases hlt : q < m'
            · obtain ⟨b1, off1, x1, rfl, hb1', hg1, e1⟩ := (HRO.out.below (hbel.mono (by omega))).int_at HOL.out hlt
              obtain ⟨y0, y1⟩ := HMEM.out x1 (List.mem_of_getElem? hg1)
              obtain ⟨i, rfl⟩ := Int.eq_ofNat_of_zero_le y0
              obtain ⟨b2, off2, s2, rfl, hb2', hg2, e2⟩ := (HRT.out.below (hbel.mono hB8')).str_at Hl'.out (show i < m' by omega)
              obtain ⟨b3, off3, s3, rfl, hb3', hg3, e3⟩ := (HRX.out.below (hbel.mono hz78)).str_at (by rw [pick_length, HOL.out]) hlt
              obtain rfl : s3 = s2 := by
                have h : (pick things O)[q]? = some s2 := by simp [pick, hg1, hg2]
                rw [hg3] at h; exact Option.some.inj h
              have i0 : (0 : Int) ≤ (i : Int) := by omega
              have i1 : (i : Int) < (m' : Int) := by omega
              have i2 : (0 : Int) ≤ (q : Int) := by omega
              have i3 : (q : Int) < (m' : Int) := by omega
              clear hg1 hg2 hg3
              go_wp2_with fail
              go_quiet (fail)
              go_wp2_with fail
              go_roundw
              case rel => exact ⟨q + 1, by omega, by go_num, below_drewN hbel _⟩
              case measure => simp [intOf]; omega
            · obtain rfl : q = m' := by omega
              go_wp2_with (go_at_call 14; refine (shuf_alive _).mono ?_; rintro e w9 ⟨rfl, hb9⟩)
              go_ret
              exact ⟨rfl, then_ (then_ hB8 hbel (Nat.le_refl _)) hb9 (Nat.le_refl _)⟩

set_option maxRecDepth 100000 in
set_option maxHeartbeats 8000000 in
theorem orders_arg (A A' : Option Addr) (n c m' c' : Nat) (N at_ : Int) (ws : List Int) (w : World) (hr : Rd w w.heap.size 1 A n (ws.map (Value.int .u32))) (hn : n ≤ 1000) (hm' : m' ≤ 300) (ha1 : -1099511627776 ≤ at_) (ha2 : at_ ≤ 1099511627776) (hN : N < 0 ∨ 65536 < N) :
    Calls Try.prog 3 #[.int .i64 N, Words.st A n c at_, .slice A' m' c'] w fun e w' => e = .returned (.bool true) ∧ Below w.heap.size w w' := by
  have HR := hide hr
  have HN := hide hN
  have d2 : decide (1000 < n) = false := by simp; omega
  have d3 : decide (300 < m') = false := by simp; omega
  clear hr
  rcases (show N < 0 ∨ (0 ≤ N ∧ 65536 < N) by omega) with h | ⟨h, h'⟩
  all_goals
    clear hN
    go_enter Try.func3, Try.ntmps3
    go_wp2_with fail
    refine (order_arg A n c at_ N HN.out _).mono ?_; rintro e w1 ⟨rfl, hb1⟩
    have hbel := (show Below w.heap.size w _ from by go_grown).trans (hb1.mono (by simp))
    have k0 := hold1 hb1 (p := ⟨w.heap.size, 0, none⟩) (v := .slice A n c) (by simp [go_sem])
    have k1 := hold1 hb1 (p := ⟨w.heap.size, 1, none⟩) (v := .int .i64 at_) (by simp [go_sem])
    have hz1 := hb1.size
    simp at hz1
    have hsz := sizes (show w.heap.size < w1.heap.size by omega)
    clear hb1
    go_wp2_with fail
    refine (same69 A n c w.heap.size at_ at_ 0 ws (by omega) (by omega) (by omega) _ (HR.out.below (hbel.alloc (by omega) _)) (by simp; omega)).mono ?_; rintro e v8 ⟨rfl, hb8⟩
    go_wp2_with (go_at_call 14; refine (shuf_alive _).mono ?_; rintro e w9 ⟨rfl, hb9⟩)
    go_ret
    exact ⟨rfl, then_ (then_ (hbel.alloc (by omega) _) hb8 (Nat.le_refl _)) hb9 (Nat.le_refl _)⟩
set_option maxRecDepth 100000 in
set_option maxHeartbeats 8000000 in
theorem orders_great (A A' : Option Addr) (n c m' c' : Nat) (N at_ : Int) (w : World)
    (h : (300 < N ∧ N ≤ 65536) ∨ 1000 < n ∨ 300 < m' ∨ at_ < -1099511627776 ∨ 1099511627776 < at_) :
    Calls Try.prog 3 #[.int .i64 N, Words.st A n c at_, .slice A' m' c'] w fun e w' => e = .returned (.bool true) ∧ Below w.heap.size w w' := by
  have hN : (300 < N ∧ N ≤ 65536) ∨ (N ≤ 300) ∨ (300 < N ∧ 65536 < N) := by omega
  rcases hN with ⟨h1, h2⟩ | hN
  · clear h
    go_enter Try.func3, Try.ntmps3
    go_wp2_with fail
    go_ret
    exact ⟨rfl, by go_grown⟩
  · have h2 : 1000 < n ∨ (n ≤ 1000 ∧ 300 < m') ∨ (n ≤ 1000 ∧ m' ≤ 300 ∧ at_ < -1099511627776) ∨ (n ≤ 1000 ∧ m' ≤ 300 ∧ -1099511627776 ≤ at_ ∧ 1099511627776 < at_) := by omega
    clear h
    rcases h2 with h3 | ⟨h3, h4⟩ | ⟨h3, h4, h5⟩ | ⟨h3, h4, h5, h6⟩
    · have d2 : decide (1000 < n) = true := by simpa using h3
      rcases hN with h1 | ⟨h1, h2⟩
      all_goals
        go_enter Try.func3, Try.ntmps3
        go_wp2_with fail
        go_ret
        exact ⟨rfl, by go_grown⟩
    · have d2 : decide (1000 < n) = false := by simp; omega
      have d3 : decide (300 < m') = true := by simpa using h4
      rcases hN with h1 | ⟨h1, h2⟩
      all_goals
        go_enter Try.func3, Try.ntmps3
        go_wp2_with fail
        go_ret
        exact ⟨rfl, by go_grown⟩
    · have d2 : decide (1000 < n) = false := by simp; omega
      have d3 : decide (300 < m') = false := by simp; omega
      rcases hN with h1 | ⟨h1, h2⟩
      all_goals
        go_enter Try.func3, Try.ntmps3
        go_wp2_with fail
        go_ret
        exact ⟨rfl, by go_grown⟩
    · have d2 : decide (1000 < n) = false := by simp; omega
      have d3 : decide (300 < m') = false := by simp; omega
      rcases hN with h1 | ⟨h1, h2⟩
      all_goals
        go_enter Try.func3, Try.ntmps3
        go_wp2_with fail
        go_ret
        exact ⟨rfl, by go_grown⟩
theorem orders_walk (A A' : Option Addr) (n c m' c' : Nat) (N at_ : Int) (ws : List Int) (things : List ByteArray) (w : World) (hr : Rd w w.heap.size 1 A n (ws.map (Value.int .u32))) (hl : ws.length = n) (hw : ∀ x ∈ ws, (Lit.int .u32 x).wf = true) (hc : n ≤ c)
    (hr' : Rd w w.heap.size 1 A' m' (things.flatMap str)) (hl' : things.length = m') :
    Calls Try.prog 3 #[.int .i64 N, Words.st A n c at_, .slice A' m' c'] w fun e w' => e = .returned (.bool true) ∧ Below w.heap.size w w' := by
  by_cases h : (300 < N ∧ N ≤ 65536) ∨ 1000 < n ∨ 300 < m' ∨ at_ < -1099511627776 ∨ 1099511627776 < at_
  · exact orders_great A A' n c m' c' N at_ w h
  · by_cases h2 : N < 0 ∨ 65536 < N
    · exact orders_arg A A' n c m' c' N at_ ws w hr (by omega) (by omega) (by omega) (by omega) h2
    · obtain ⟨m, rfl⟩ := Int.eq_ofNat_of_zero_le (show 0 ≤ N by omega)
      exact orders_main A A' n c m m' c' at_ ws things w hr hl hw hc hr' hl' (by omega) (by omega) (by omega) (by omega) (by omega)

set_option maxRecDepth 100000 in
theorem shuffleOrders_lifted (os : Os) (started : os.Started) (H : Type) (enc : TypeId × Value → H) :
    ReturnsInHanded {} Try.checked os 3 .any (Rows.shuffleOrdersSpec.pre6 enc Try.prog Try.f3 [] false) (Rows.shuffleOrdersSpec.post enc Try.prog Try.f3 false true false false) := by
  refine law_lifted (C := Try.checked) Try.own started (by kernel_rfl) Try.func3
    (ChangeSpec.witness6 (enc := enc) (C := Try.checked) false ⟨#[], #[.int .i64 0, .agg #[.slice none 0 0, .int .i64 0], .slice none 0 0], []⟩ 8 (by kernel_rfl) (by kernel_rfl) (by kernel_rfl) (by kernel_rfl))
    Try.laidOut (show ∀ t ∈ [3, 24, 25], Try.prog.readableRec t = true ∧ t < Try.prog.types.size from by
      intro t ht; simp only [List.mem_cons, List.not_mem_nil, or_false] at ht; rcases ht with rfl | rfl | rfl <;> exact ⟨by kernel_rfl, of_decide_eq_true (by kernel_rfl)⟩) (tb := 4) (by kernel_rfl) Try.underlying4 rfl (fun ds hd => ?_) ?_
  · match ds, hd with
    | [_, _, _], _ => rfl
  · intro W base args ds p hval hA
    have hval' : ∀ (j : Nat) t v, Try.f3.params[j]? = some t → args[j]? = some v → Value.okWide Try.prog W .any base t v := hval
    rw [Try.params3] at hA hval'
    obtain ⟨v0, v1, v2, d0, d1, d2, p0, p1, p2, rfl, rfl, rfl, h0, h1, h2⟩ := trodAll_three hA
    obtain ⟨N, rfl, w0⟩ := arg_int Try.underlying3 (hval' 0 _ _ rfl rfl) h0
    obtain ⟨us, m, rfl, hul, huf⟩ := arg_struct Try.underlying24 (by kernel_rfl) (by kernel_rfl) (hval' 1 _ _ rfl rfl) h1
    obtain ⟨A, n, c, ws, a1, rfl, hl, hc, hw, hr⟩ : ∃ (A : Option Addr) (n c : Nat) (ws : List Int) (a1 : Int), us = [.slice A n c, .int .i64 a1] ∧ ws.length = n ∧ n ≤ c ∧ (∀ x ∈ ws, (Lit.int .u32 x).wf = true) ∧ Rd W W.heap.size 1 A n (ws.map (Value.int .u32)) := by
      match us, hul with
      | [u0, u1], _ =>
        obtain ⟨y0, t0⟩ := huf 0 _ u0 rfl rfl
        obtain ⟨y1, t1⟩ := huf 1 _ u1 rfl rfl
        obtain ⟨A, n, c, l, e0, hl, hc, _, hw, hr⟩ := open_list (f := fun z => [Value.int .u32 z]) (m := 1) (fun _ => rfl) (by omega) (ok := fun z => (Lit.int .u32 z).wf = true) Try.underlying22 (by kernel_rfl)
          (fun n cs' y hy => by obtain ⟨z, h1, _, h2⟩ := DataW.trod_int Try.underlying63 hy; exact ⟨z, h1, h2⟩) t0
        obtain ⟨z, e1, _, _⟩ := DataW.trod_int Try.underlying3 t1
        simp only [List.cons.injEq, and_true] at e0 e1
        subst e0; subst e1
        rw [map_flat] at hr
        exact ⟨A, n, c, l, z, rfl, hl, hc, hw, hr⟩
    obtain ⟨A', m', c', L, rfl, hl', hc', _, hw', hr'⟩ := arg_list (f := str) str_len (by omega) (ok := fun x => x.size ≤ maxLen) Try.underlying25 (by kernel_rfl)
      (fun n cs' y hy => by obtain ⟨x, h1, _, h2⟩ := DataW.trod_string Try.underlying9 hy; exact ⟨x, h1, h2⟩) (hval' 2 _ _ rfl rfl) h2
    exact orders_walk A A' n c m' c' N a1 ws L W hr hl hw hc hr' hl'

theorem shuffleOrders_holds : Rows.ShuffleOrdersSaid :=
  OpenClaim.holds_of_wide 3 Try.f3 rfl rfl rfl rfl rfl rfl rfl ⟨rfl, rfl, rfl, rfl, rfl⟩ rfl rfl rfl rfl rfl (by kernel_rfl) Try.func3 (by kernel_rfl)
    (of_decide_eq_true (by kernel_rfl)) (by unfold Func.isWrapper; first | (rw [if_pos (by decide +kernel)]; kernel_rfl) | (rw [if_neg (by decide +kernel)]; exact ⟨rfl, rfl⟩))
    (fun os started H enc _ => shuffleOrders_lifted os started H enc)
#print axioms shuffleOrders_holds
end Go.Proofs.Ytalecppofemcnaa
