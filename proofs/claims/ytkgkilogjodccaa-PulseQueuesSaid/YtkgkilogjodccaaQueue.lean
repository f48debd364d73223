/-
  The walk of pulse.Queue; rows of the call's own that are known place by place.
-/
import Derived.Test.YtkgkilogjodccaaTrips
import Derived.Deep.OwnRows
import Derived.OneCell
namespace Go.Proofs.Ytkgkilogjodccaa
open Go.RowKit HB TripP
set_option linter.unusedVariables false
set_option linter.unusedSimpArgs false
namespace HB
/-- a row of n numbers -/
def tb (n : Nat) (f : Nat → Int) : List Int := (List.range n).map f
theorem tb_length (n : Nat) (f : Nat → Int) : (tb n f).length = n := by simp [tb]
theorem tb_get {n : Nat} {f : Nat → Int} {v : Nat} {x : Int} (h : (tb n f)[v]? = some x) : x = f v := by
  have hv : v < n := by have := (List.getElem?_eq_some_iff.1 h).1; rwa [tb_length] at this
  simp [tb, hv] at h
  exact h.symm
theorem tb_set (n : Nat) (f : Nat → Int) (v : Nat) (x : Int) : (tb n f).set v x = tb n (fun u => if u = v then x else f u) := by
  apply List.ext_getElem?
  intro i
  rw [List.getElem?_set, tb_length]
  by_cases hi : v = i
  · subst hi
    by_cases hq : v < n <;> simp [tb, hq]
  · rw [if_neg hi]
    by_cases hn : i < n
    · simp [tb, hn, Ne.symm hi]
    · simp [tb, hn]
theorem tb_congr {n : Nat} {f g : Nat → Int} (h : ∀ v, v < n → f v = g v) : tb n f = tb n g := by
  unfold tb
  apply List.map_congr_left
  intro v hv
  exact h v (List.mem_range.1 hv)
theorem tb_zero (n : Nat) : List.replicate n (0 : Int) = tb n (fun _ => 0) := by
  apply List.ext_getElem?
  intro i
  by_cases hi : i < n <;> simp [tb, hi]
theorem tb_next (n : Nat) (f : Nat → Int) : tb n f ++ [f n] = tb (n + 1) f := by simp [tb, List.range_succ]
end HB
/-- a row of n numbers, the call's own, at block g -/
def HRow (w : World) (B g n : Nat) (f : Nat → Int) : Prop := Own w B 3 1 (num .i64) (.slice (some ⟨g, 0, none⟩) n n) (tb n f) ∧ B ≤ g ∧ g < w.heap.size
theorem HRow.cell {w : World} {B g n : Nat} {f : Nat → Int} (h : HRow w B g n f) {v : Nat} (hv : v < n) : w.cell? ⟨g, v, none⟩ = some (.int .i64 (f v)) ∧ w.frozen? ⟨g, v, none⟩ = false := by
  obtain ⟨x, hx, cx, fx⟩ := h.1.int_at (tb_length _ _) (j := v) (by omega)
  rw [tb_get hx] at cx
  exact ⟨cx, fx⟩
theorem HRow.store {w : World} {B g n : Nat} {f : Nat → Int} (h : HRow w B g n f) (v : Nat) (x : Int) : HRow (w.setCell ⟨g, v, none⟩ (.int .i64 x)) B g n (fun u => if u = v then x else f u) := by
  have h1 := (h.1.store (tb_length _ _) v x).1
  rw [tb_set] at h1
  exact ⟨h1, h.2.1, by simp; exact h.2.2⟩
theorem HRow.far {w : World} {B g n : Nat} {f : Nat → Int} (h : HRow w B g n f) {p : Addr} (hp : g ≠ p.block) (u : Value) : HRow (w.setCell p u) B g n f :=
  ⟨ownsRow_setCell_other h.1 (by simpa [Value.ownBlock] using hp) u, h.2.1, by simp; exact h.2.2⟩
theorem HRow.alloc {w : World} {B g n : Nat} {f : Nat → Int} (h : HRow w B g n f) (o : Obj) : HRow (w.alloc o) B g n f :=
  ⟨h.1.alloc o, h.2.1, by simp; have := h.2.2; omega⟩
theorem HRow.congr {w : World} {B g n : Nat} {f f' : Nat → Int} (h : HRow w B g n f) (he : ∀ v, v < n → f v = f' v) : HRow w B g n f' := by
  unfold HRow at h ⊢
  rw [← tb_congr he]; exact h
theorem HRow.new (w : World) (B n : Nat) (hB : B ≤ w.heap.size) (hn : n ≤ 1000000) : HRow (w.alloc (.cells (madeCells #[.int .i64 0] n) 3)) B w.heap.size n (fun _ => 0) := by
  have h := Own.made (base := B) (k := .i64) w 3 n hB (by omega)
  rw [tb_zero] at h
  exact ⟨h, hB, by simp⟩
namespace TripP
/-- does a passenger wait behind a tick? -/
def waits (x : Tr) (t : Int) : Bool := decide (x.arr ≤ t ∧ (x.brd < 0 ∨ t < x.brd))
/-- how many wait -/
def cn (l : List Tr) (t : Nat) : Int := ((l.filter fun x => waits x t).length : Int)
theorem cn_next {l : List Tr} {k : Nat} {x : Tr} (h : l[k]? = some x) (t : Nat) : cn (l.take (k + 1)) t = cn (l.take k) t + if x.arr ≤ (t : Int) ∧ (x.brd < 0 ∨ (t : Int) < x.brd) then 1 else 0 := by
  rw [List.take_add_one, h]
  unfold cn
  rw [List.filter_append]
  by_cases hx : x.arr ≤ (t : Int) ∧ (x.brd < 0 ∨ (t : Int) < x.brd)
  · simp [waits, hx, List.filter_cons]
  · simp [waits, hx, List.filter_cons]
theorem cn_range (l : List Tr) (t : Nat) : 0 ≤ cn l t ∧ cn l t ≤ l.length := by
  unfold cn
  have := List.length_filter_le (fun x => waits x t) l
  omega
end TripP
set_option maxRecDepth 100000 in
set_option maxHeartbeats 4000000 in
theorem pulse_queue (A : Option Addr) (n c B H : Nat) (l : List Tr) (h : Int) (w : World) (hr : Rd w B 7 A n (l.flatMap tr)) (hB : B ≤ w.heap.size) (hl : l.length = n) (hn : n ≤ 100) (hH : max h 0 = (H : Int)) (hH2 : H ≤ 300) (hf : ∀ x ∈ l, fine x) :
    Calls Try.prog 43 #[.slice A n c, .int .i64 h] w fun e w' => (∃ v, e = .returned v ∧ Own w' w.heap.size 3 1 (num .i64) v (tb H (cn l))) ∧ Below w.heap.size w w' := by
  have hmk := fun (W : World) => run_make_row' (P := Try.prog) 35 3 (.int .i64 0) 8 Try.underlying35 Trips.info rfl .i64 .i64 H (by omega) (by omega) W
  have Hl := hide hl
  have HR := hide hr
  have HF := hide hf
  have hrow0 := hide ((HRow.new w w.heap.size H (Nat.le_refl _) (by omega)).congr (f' := cn (l.take 0)) (fun v _ => by simp [cn]))
  have hm2 : min (H : Int) 1048576 = (H : Int) := by omega
  clear hl hr hf
  go_enter Try.func43, Try.ntmps43
  go_wp2_with fail
  clear hmk hm2 hH
  go_loopw [16] (fun i wr => ∃ q : Nat, q ≤ n ∧ i = .int .i64 q ∧ HRow wr w.heap.size w.heap.size H (cn (l.take q)) ∧ Below w.heap.size w wr) (fun i _ => n - (intOf i).toNat)
  case atStart => exact ⟨0, Nat.zero_le _, rfl, hrow0.out, by go_grown⟩
  case round =>
    clear hrow0
    obtain ⟨q, hq, rfl, hrow, hbel⟩ := hrel
    obtain ⟨W1, hW1⟩ : ∃ W1, W1 = wr := ⟨_, rfl⟩
    subst hW1
    have HROW := hide hrow
    have hz := hbel.size
    have hgz := hrow.2.2
    clear hrow
    by_cases hlt : q < n
    · obtain ⟨b, off, x, rfl, hb, hg, c0, c1, c2, c3, c4, c5, c6⟩ := (HR.out.below (hbel.mono hB)).trip_at Hl.out hlt
      obtain ⟨f1, f2, f3, f4, f5, f6⟩ := HF.out x (List.mem_of_getElem? hg)
      have hcn := hide (fun t => cn_next hg t)
      have HCR := hide (fun t => cn_range (l.take q) t)
      have hlq : (l.take q).length ≤ 100 := by rw [List.length_take]; omega
      have HROW2 := hide (fun o => HROW.out.alloc o)
      clear hg
      obtain ⟨lo, hlo⟩ : ∃ lo, max x.arr 0 = lo := ⟨_, rfl⟩
      have hlo2 : 0 ≤ lo ∧ x.arr ≤ lo ∧ (lo = x.arr ∨ lo = 0) := by omega
      have HLO := hide hlo2
      by_cases hx : 0 ≤ x.brd
      · obtain ⟨en, hen⟩ : ∃ en, min (H : Int) x.brd = en := ⟨_, rfl⟩
        have hen2 : en ≤ H ∧ en ≤ x.brd ∧ (en = H ∨ en = x.brd) := by omega
        have HEN := hide hen2
        clear hlo2 hen2
        go_wp2_with fail
        clear hlo hen
        go_loopw [9] (fun i wr => ∃ c : Int, i = .int .i64 c ∧ lo ≤ c ∧ (c = lo ∨ c ≤ en) ∧ HRow wr w.heap.size w.heap.size H (fun t => cn (l.take q) t + if lo ≤ (t : Int) ∧ (t : Int) < c then 1 else 0) ∧ Below w.heap.size w wr) (fun i _ => (en - intOf i).toNat)
        case atStart => exact ⟨lo, rfl, Int.le_refl _, .inl rfl, (HROW2.out _).congr (fun v _ => by rw [if_neg (by omega)]; omega), hbel.alloc hz _⟩
        case round =>
          clear hbel HROW HROW2
          have hlo2 := HLO.out
          have hen2 := HEN.out
          obtain ⟨c, rfl, hc1, hc2, hrow, hbel⟩ := hrel
          have HROW := hide hrow
          clear hrow
          by_cases hce : c < en
          · obtain ⟨d, rfl⟩ := Int.eq_ofNat_of_zero_le (show 0 ≤ c by omega)
            have hdH : d < H := by omega
            obtain ⟨cd, fd⟩ := HROW.out.cell hdH
            rw [if_neg (by omega), Int.add_zero] at cd
            have hrg := HCR.out d
            have hst := hide (HROW.out.store d (cn (l.take q) d + 1))
            have HCD := hide (rfl : cn (l.take q) d = cn (l.take q) d)
            have hcd1 : 0 ≤ cn (l.take q) d := hrg.1
            have hcd2 : cn (l.take q) d ≤ 100 := by omega
            clear hrg
            have hfin := hide (hst.out.congr (f' := fun t => cn (l.take q) t + if lo ≤ (t : Int) ∧ (t : Int) < (d : Int) + 1 then 1 else 0) (fun v _ => by
              by_cases h : v = d
              · subst h; simp only [if_true]; rw [if_pos (by omega)]
              · simp only [if_neg h]
                by_cases h2 : lo ≤ (v : Int) ∧ (v : Int) < d
                · rw [if_pos h2, if_pos (by omega)]
                · rw [if_neg h2, if_neg (by omega)]))
            clear hst
            clear hlo2 hen2
            generalize cn (l.take q) d = y at *
            go_wp2_with fail
            go_roundw
            case rel => exact ⟨(d : Int) + 1, rfl, by have := HLO.out; omega, by omega, hfin.out, hbel.setCell (Nat.le_refl _) _⟩
            case measure => simp [intOf]; omega
          · have hfin := hide (HROW.out.congr (f' := cn (l.take (q + 1))) (fun v hv => by
              rw [hcn.out v]
              congr 1
              by_cases h2 : lo ≤ (v : Int) ∧ (v : Int) < c
              · rw [if_pos h2, if_pos (by omega)]
              · rw [if_neg h2, if_neg (by omega)]))
            clear HROW hlo2 hen2
            go_wp2_with fail
            go_roundw
            case rel => exact ⟨q + 1, by omega, by go_num, hfin.out, hbel⟩
            case measure => simp [intOf]; omega
      · clear hlo2
        go_wp2_with fail
        clear hlo
        go_loopw [9] (fun i wr => ∃ c : Int, i = .int .i64 c ∧ lo ≤ c ∧ (c = lo ∨ c ≤ (H : Int)) ∧ HRow wr w.heap.size w.heap.size H (fun t => cn (l.take q) t + if lo ≤ (t : Int) ∧ (t : Int) < c then 1 else 0) ∧ Below w.heap.size w wr) (fun i _ => ((H : Int) - intOf i).toNat)
        case atStart => exact ⟨lo, rfl, Int.le_refl _, .inl rfl, (HROW2.out _).congr (fun v _ => by rw [if_neg (by omega)]; omega), hbel.alloc hz _⟩
        case round =>
          clear hbel HROW HROW2
          have hlo2 := HLO.out
          obtain ⟨c, rfl, hc1, hc2, hrow, hbel⟩ := hrel
          have HROW := hide hrow
          clear hrow
          by_cases hce : c < (H : Int)
          · obtain ⟨d, rfl⟩ := Int.eq_ofNat_of_zero_le (show 0 ≤ c by omega)
            have hdH : d < H := by omega
            obtain ⟨cd, fd⟩ := HROW.out.cell hdH
            rw [if_neg (by omega), Int.add_zero] at cd
            have hrg := HCR.out d
            have hst := hide (HROW.out.store d (cn (l.take q) d + 1))
            have HCD := hide (rfl : cn (l.take q) d = cn (l.take q) d)
            have hcd1 : 0 ≤ cn (l.take q) d := hrg.1
            have hcd2 : cn (l.take q) d ≤ 100 := by omega
            clear hrg
            have hfin := hide (hst.out.congr (f' := fun t => cn (l.take q) t + if lo ≤ (t : Int) ∧ (t : Int) < (d : Int) + 1 then 1 else 0) (fun v _ => by
              by_cases h : v = d
              · subst h; simp only [if_true]; rw [if_pos (by omega)]
              · simp only [if_neg h]
                by_cases h2 : lo ≤ (v : Int) ∧ (v : Int) < d
                · rw [if_pos h2, if_pos (by omega)]
                · rw [if_neg h2, if_neg (by omega)]))
            clear hst
            clear hlo2
            generalize cn (l.take q) d = y at *
            go_wp2_with fail
            go_roundw
            case rel => exact ⟨(d : Int) + 1, rfl, by have := HLO.out; omega, by omega, hfin.out, hbel.setCell (Nat.le_refl _) _⟩
            case measure => simp [intOf]; omega
          · have hfin := hide (HROW.out.congr (f' := cn (l.take (q + 1))) (fun v hv => by
              rw [hcn.out v]
              congr 1
              by_cases h2 : lo ≤ (v : Int) ∧ (v : Int) < c
              · rw [if_pos h2, if_pos (by omega)]
              · rw [if_neg h2, if_neg (by omega)]))
            clear HROW hlo2
            go_wp2_with fail
            go_roundw
            case rel => exact ⟨q + 1, by omega, by go_num, hfin.out, hbel⟩
            case measure => simp [intOf]; omega
    · have he : l.take q = l := List.take_of_length_le (by rw [Hl.out]; omega)
      rw [he] at HROW
      clear he
      go_wp2_with fail
      go_ret
      exact ⟨⟨_, rfl, HROW.out.1⟩, hbel⟩
end Go.Proofs.Ytkgkilogjodccaa
