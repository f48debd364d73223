/-
  The walk of shuffle.Of at strings.
-/
import Derived.Test.YtalecppofemcnaaShufRef2
import Derived.Laws.MakeOwn
namespace Go.Proofs.Ytalecppofemcnaa
open Go.RowKit HB PickP ShufP
set_option linter.unusedVariables false
set_option linter.unusedSimpArgs false
namespace HB
/-- one text an element -/
abbrev str : ByteArray → List Value := fun s => [Value.string s]
theorem str_len (s : ByteArray) : (str s).length = 1 := rfl
theorem str_flat (l : List ByteArray) : l.flatMap str = l.map Value.string := by
  induction l with
  | nil => rfl
  | cons a l ih => simp [List.flatMap_cons, ih]
/-- An element of a slice of texts. -/
theorem Rd.str_at {w : World} {B n : Nat} {A : Option Addr} {l : List ByteArray} (h : Rd w B 1 A n (l.flatMap str)) (hl : l.length = n) {i : Nat} (hi : i < n) :
    ∃ b off x, A = some ⟨b, off, none⟩ ∧ b < B ∧ l[i]? = some x ∧ w.cell? ⟨b, off + i, none⟩ = some (.string x) := by
  rw [str_flat] at h
  obtain ⟨b, off, hA, hb, hc⟩ := h.at_ (by omega)
  have hg : l[i]? = some (l[i]'(by omega)) := List.getElem?_eq_getElem _
  exact ⟨b, off, _, hA, hb, hg, hc i _ (by rw [List.getElem?_map, hg]; rfl)⟩
end HB
theorem Of.info : (Try.prog.info? 9).map (fun i => (i.zero, i.size, i.bytes)) = some (some (.string ByteArray.empty), 1, 16) := by kernel_rfl
theorem Of.make (w : World) (c : Nat) (hc : c ≤ 1000) :
    (Instr.makeSlice 25 (.int .i64 0) (.int .i64 (c : Int))).run Try.prog w = .ok (.slice (some ⟨w.heap.size, 0, none⟩) 0 c) (w.alloc (.cells (madeCells #[.string ByteArray.empty] c) 9)) := by
  obtain ⟨i, hi, hz, hs, hb⟩ := info_parts Of.info
  have hr := run_make (P := Try.prog) w 25 9 i _ Try.underlying25 hi hz .i64 .i64 0 c (Int.le_refl _) (by omega) (by rw [hb]; omega) (by omega)
  simp only [Int.toNat_natCast, hs, Nat.mul_one, Int.toNat_zero] at hr
  exact hr
theorem Of.own (w : World) (c B : Nat) (hc : c ≤ 1000) (hB : B ≤ w.heap.size) : Own (w.alloc (.cells (madeCells #[.string ByteArray.empty] c) 9)) B 9 1 str (.slice (some ⟨w.heap.size, 0, none⟩) 0 c) [] := by
  exact World.ownsRow_made (base := B) (e := 9) (size := 1) w (madeCells #[.string ByteArray.empty] c) c hB (by simp only [maxLen]; omega) (by simp [madeCells])
namespace ShufP
/-- things in an order -/
def pick (things : List ByteArray) (o : List Int) : List ByteArray := o.map fun i => things.getD i.toNat ByteArray.empty
theorem pick_length (things : List ByteArray) (o : List Int) : (pick things o).length = o.length := by simp [pick]
theorem pick_next {things : List ByteArray} {o : List Int} {k i : Nat} {x : ByteArray} (h : o[k]? = some (i : Int)) (hx : things[i]? = some x) : pick things (o.take (k + 1)) = pick things (o.take k) ++ [x] := by
  rw [List.take_add_one, h]
  simp [pick, hx]
theorem ord_mem (ws : List Int) (p n : Nat) : ∀ j, ∀ x ∈ ord ws p n j, 0 ≤ x ∧ x < n
  | 0, x, hx => by
    simp only [ord, row, List.mem_map, List.mem_range] at hx
    obtain ⟨i, hi, rfl⟩ := hx
    omega
  | j + 1, x, hx => by
    have hn : 0 < n := by
      have := List.length_pos_of_mem hx
      rwa [ord_length] at this
    have ih := ord_mem ws p n j
    have key : ∀ k, 0 ≤ (ord ws p n j).getD k 0 ∧ (ord ws p n j).getD k 0 < n := by
      intro k
      rw [List.getD_eq_getElem?_getD]
      cases h : (ord ws p n j)[k]? with
      | none => simp; omega
      | some y => exact ih y (List.mem_of_getElem? h)
    simp only [ord, sw] at hx
    rcases List.mem_or_eq_of_mem_set hx with hx | rfl
    · rcases List.mem_or_eq_of_mem_set hx with hx | rfl
      · exact ih x hx
      · exact key _
    · exact key _
end ShufP
def Of.Post (A : Option Addr) (n c m : Nat) (at_ : Int) (ws : List Int) (things : List ByteArray) (w : World) (e : Ending) (w' : World) : Prop :=
  Below w.heap.size w w' ∧ ((1 < m ∧ (at_ < 0 ∨ (n : Int) < at_ + m - 1) ∧ e = .returned (.tuple #[.slice none 0 0, Words.st A n c at_, .int .i64 50])) ∨
    ((1 < m → 0 ≤ at_ ∧ at_ + m - 1 ≤ n) ∧ ∃ v, e = .returned (.tuple #[v, Words.st A n c (at_ + (m - 1 : Nat)), .int .i64 0]) ∧ Own w' w.heap.size 9 1 str v (pick things (ord ws at_.toNat m (m - 1)))))
set_option maxRecDepth 100000 in
set_option maxHeartbeats 4000000 in
theorem shuffle_of (A A' : Option Addr) (n c m c' : Nat) (at_ : Int) (ws : List Int) (things : List ByteArray) (w : World) (hr : Rd w w.heap.size 1 A n (ws.map (Value.int .u32))) (hl : ws.length = n) (hw : ∀ x ∈ ws, (Lit.int .u32 x).wf = true)
    (hr' : Rd w w.heap.size 1 A' m (things.flatMap str)) (hl' : things.length = m) (hn : n ≤ 1000) (hm : m ≤ 300) :
    Calls Try.prog 18 #[.slice A' m c', Words.st A n c at_] w (Of.Post A n c m at_ ws things w) := by
  have hmk := fun (W : World) => Of.make W m (by omega)
  have HMK := hide hmk
  have Hl := hide hl
  have Hw := hide hw
  have HR := hide hr
  have Hl' := hide hl'
  have HR' := hide hr'
  clear hl hw hr hl' hr' hmk
  go_enter Try.func18, Try.ntmps18
  go_wp2_with fail
  refine (order_any A n c m at_ ws _ (((HR.out.alloc (Nat.le_refl _) _).alloc (by simp) _).mono (by simp; omega)) Hl.out Hw.out hn hm).mono ?_; rintro e w1 ⟨hb1, ⟨hd1, hd2, rfl⟩ | ⟨hd1, v, rfl, hown⟩⟩
  · have hbel := (show Below w.heap.size w _ from by go_grown).trans (hb1.mono (by simp; omega))
    have k0 := hold1 hb1 (p := ⟨w.heap.size, 0, none⟩) (v := .slice A n c) (by simp [go_sem])
    have k1 := hold1 hb1 (p := ⟨w.heap.size, 1, none⟩) (v := .int .i64 at_) (by simp [go_sem])
    have k2 := hold1 hb1 (p := ⟨w.heap.size + 1, 0, none⟩) (v := .slice none 0 0) (by simp [go_sem])
    have k3 := hold1 hb1 (p := ⟨w.heap.size + 1, 1, none⟩) (v := .int .i64 0) (by simp [go_sem])
    have f2 := holdf hb1 (p := ⟨w.heap.size + 1, 0, none⟩) (by simp) (by simp [go_sem])
    have f3 := holdf hb1 (p := ⟨w.heap.size + 1, 1, none⟩) (by simp) (by simp [go_sem])
    have hz1 := hb1.size
    simp at hz1
    have HD := hide hd2
    clear hb1 hd2
    go_wp2_with fail
    refine letter (w := w) (fun W => W.cell? ⟨w.heap.size, 0, none⟩ = some (.slice A n c) ∧ W.cell? ⟨w.heap.size, 1, none⟩ = some (.int .i64 at_) ∧
      W.cell? ⟨w.heap.size + 1, 0, none⟩ = some (.slice none 0 0) ∧ W.cell? ⟨w.heap.size + 1, 1, none⟩ = some (.int .i64 0) ∧ W.frozen? ⟨w.heap.size + 1, 0, none⟩ = false ∧ W.frozen? ⟨w.heap.size + 1, 1, none⟩ = false)
      ⟨hold1 ((Below.refl _ _).alloc (Nat.le_refl _) _) k0, hold1 ((Below.refl _ _).alloc (Nat.le_refl _) _) k1, hold1 ((Below.refl _ _).alloc (Nat.le_refl _) _) k2, hold1 ((Below.refl _ _).alloc (Nat.le_refl _) _) k3, holdf ((Below.refl _ _).alloc (Nat.le_refl _) _) (show w.heap.size + 1 < _ by omega) f2, holdf ((Below.refl _ _).alloc (Nat.le_refl _) _) (show w.heap.size + 1 < _ by omega) f3⟩ (hbel.alloc (by omega) _) (by simp; omega) ?_
    clear k0 k1 k2 k3 f2 f3 hbel hz1
    rintro W ⟨k0, k1, k2, k3, f2, f3⟩ hB hz
    have s2 := set_same k2
    have s3 := set_same2 ⟨w.heap.size + 1, 0, none⟩ (by simp) k3
    go_region
    all_goals
      go_wp2_with fail
      refine bodyPost_ret (v := .tuple #[.slice none 0 0, Words.st A n c at_, .int .i64 50]) (by simp [results, Try.results18, go_sem, s2, s3]) rfl ⟨by go_grown, .inl ⟨hd1, HD.out, rfl⟩⟩
  · have hbel := (show Below w.heap.size w _ from by go_grown).trans (hb1.mono (by simp; omega))
    have k0 := hold1 hb1 (p := ⟨w.heap.size, 0, none⟩) (v := .slice A n c) (by simp [go_sem])
    have k1 := hold1 hb1 (p := ⟨w.heap.size, 1, none⟩) (v := .int .i64 at_) (by simp [go_sem])
    have k2 := hold1 hb1 (p := ⟨w.heap.size + 1, 0, none⟩) (v := .slice none 0 0) (by simp [go_sem])
    have k3 := hold1 hb1 (p := ⟨w.heap.size + 1, 1, none⟩) (v := .int .i64 0) (by simp [go_sem])
    have f2 := holdf hb1 (p := ⟨w.heap.size + 1, 0, none⟩) (by simp) (by simp [go_sem])
    have f3 := holdf hb1 (p := ⟨w.heap.size + 1, 1, none⟩) (by simp) (by simp [go_sem])
    have hz1 := hb1.size
    simp at hz1
    have hsh := hown.ints
    rw [ord_length] at hsh
    obtain ⟨A1, c1, rfl, hc1, hrd1⟩ := hsh
    have HRD := hide hrd1
    have hmem := ord_mem ws at_.toNat m (m - 1)
    have hol := ord_length ws at_.toNat m (m - 1)
    have HD := hide hd1
    generalize hO : ord ws at_.toNat m (m - 1) = O at *
    have HMEM := hide hmem
    have HOL := hide hol
    have HOO := hide hO
    have hmk := HMK.out
    have HH := hide (⟨k0, k1, k2, k3, f2, f3⟩ : (_ ∧ _ ∧ _ ∧ _ ∧ _ ∧ _))
    clear hb1 hown hrd1 hmem hol hO hd1 k0 k1 k2 k3 f2 f3
    go_wp2_with fail
    clear hmk
    have hBz : Below w1.heap.size w1 ((w1.alloc (Words.box A n c (at_ + ((m - 1 : Nat) : Int)))).alloc (.cells (madeCells #[.string ByteArray.empty] m) 9)) := by go_grown
    obtain ⟨k0, k1, k2, k3, f2, f3⟩ := HH.out
    have HELD := hide (show Order.Held w.heap.size w1.heap.size A n c at_ (at_ + ((m - 1 : Nat) : Int)) ((w1.alloc (Words.box A n c (at_ + ((m - 1 : Nat) : Int)))).alloc (.cells (madeCells #[.string ByteArray.empty] m) 9)) from
      ⟨hold1 hBz k0, hold1 hBz k1, hold1 hBz k2, hold1 hBz k3, holdf hBz (show w.heap.size + 1 < _ by omega) f2, holdf hBz (show w.heap.size + 1 < _ by omega) f3, by simp [go_sem], by simp [go_sem], by simp [go_sem], by simp [go_sem]⟩)
    have hOwn0 := Of.own (w1.alloc (Words.box A n c (at_ + ((m - 1 : Nat) : Int)))) m (w1.heap.size + 1) (by omega) (by simp)
    simp only [World.size_alloc] at hOwn0
    have HOWN := hide hOwn0
    have hRDz := hide (HRD.out.below hBz)
    have hBw := hbel.trans (hBz.mono (by omega))
    clear k0 k1 k2 k3 f2 f3 hOwn0 HH hbel HRD
    go_loopw [10, 35] (fun o i wr => ∃ k : Nat, k ≤ m ∧ i = .int .i64 k ∧ Order.Held w.heap.size w1.heap.size A n c at_ (at_ + ((m - 1 : Nat) : Int)) wr ∧ Rd wr w1.heap.size 1 A1 m (O.map (Value.int .i64)) ∧ Own wr (w1.heap.size + 1) 9 1 str o (pick things (O.take k)) ∧ Below w.heap.size w wr ∧ w1.heap.size + 1 < wr.heap.size) (fun _ i _ => m - (intOf i).toNat)
    case atStart => exact ⟨0, Nat.zero_le _, rfl, HELD.out, hRDz.out, HOWN.out, hBw, by simp⟩
    case round =>
      clear HELD hRDz HOWN hBz hBw
      obtain ⟨k, hk, rfl, hheld, hrd, hown, hbel, hsz⟩ := hrel
      have HH := hide hheld
      have HO := hide hown
      have HRD := hide hrd
      clear hown
      by_cases hlt : k < m
      · obtain ⟨b, off, x, rfl, hb, hg, c0⟩ := HRD.out.int_at HOL.out hlt
        obtain ⟨x0, x1⟩ := HMEM.out x (List.mem_of_getElem? hg)
        obtain ⟨i, rfl⟩ := Int.eq_ofNat_of_zero_le x0
        obtain ⟨b2, off2, y, rfl, hb2, hy, cy⟩ := (HR'.out.below hbel).str_at Hl'.out (show i < m by omega)
        have hpk := hide (pick_next hg hy)
        have hL : (pick things (O.take k)).length ≤ 1000000000 := by rw [pick_length, List.length_take]; omega
        have i0 : (0 : Int) ≤ (i : Int) := by omega
        have i1 : (i : Int) < (m : Int) := by omega
        clear hg hy hheld hrd
        go_wp2_with (at_builtin; refine push rfl _ _ 25 rfl Try.underlying25 Of.info rfl (by omega) (by omega) rfl (HO.out.alloc _) y ⟨_, 0, none⟩ 1 rfl rfl (cell_one_new _ _ _) (by simp [Value.oneCell']) hL (by simp; omega) ?_; intro v' w2 hown1 hb1)
        have hba : Below wr.heap.size wr (wr.alloc (.cells #[.string y] 9)) := by go_grown
        go_roundw
        case rel =>
          have hb3 : Below (w1.heap.size + 1) wr w2 := (hba.mono (by omega)).trans hb1
          obtain ⟨k0, k1, k2, k3, f2, f3, k4, k5, f4, f5⟩ := HH.out
          have cc : ∀ {b o : Nat} {v : Value}, b < w1.heap.size + 1 → wr.cell? ⟨b, o, none⟩ = some v → w2.cell? ⟨b, o, none⟩ = some v := fun h h2 => (hb3.cell (p := ⟨_, _, none⟩) h).trans h2
          have ff : ∀ {b o : Nat}, b < w1.heap.size + 1 → wr.frozen? ⟨b, o, none⟩ = false → w2.frozen? ⟨b, o, none⟩ = false := fun h h2 => (hb3.frozen (p := ⟨_, _, none⟩) h).trans h2
          exact ⟨k + 1, by omega, by go_num, ⟨cc (by omega) k0, cc (by omega) k1, cc (by omega) k2, cc (by omega) k3, ff (by omega) f2, ff (by omega) f3, cc (by omega) k4, cc (by omega) k5, ff (by omega) f4, ff (by omega) f5⟩,
            HRD.out.below (hb3.mono (by omega)), by rw [hpk.out]; exact hown1, hbel.trans (hb3.mono (by omega)), by have := hb3.size; omega⟩
        case measure => simp [intOf]; omega
      · obtain rfl : k = m := by omega
        rw [List.take_of_length_le (by rw [HOL.out]; omega)] at HO
        obtain ⟨k0, k1, k2, k3, f2, f3, k4, k5, f4, f5⟩ := hheld
        have s2 := set_same k2
        have s3 := set_same2 ⟨w.heap.size + 1, 0, none⟩ (by simp) k3
        have hsh := HO.out.shape
        obtain ⟨A3, c3, ho, -, -⟩ := hsh
        subst ho
        go_wp2_with fail
        go_region
        all_goals
          go_wp2_with fail
          refine bodyPost_ret (v := .tuple #[.slice A3 (pick things O).length c3, Words.st A n c (at_ + ((k - 1 : Nat) : Int)), .int .i64 0]) (by simp [results, Try.results18, go_sem, s2, s3]) rfl ⟨by go_grown, .inr ⟨HD.out, _, rfl, ?_⟩⟩
          rw [HOO.out]
          refine Own.small ((HO.out.setFar ?_ _).setFar ?_ _) (by omega)
          · intro h
            have := HO.out.row.lt _ h
            simp at this; omega
          · intro h
            have := HO.out.row.lt _ h
            simp at this; omega
end Go.Proofs.Ytalecppofemcnaa
