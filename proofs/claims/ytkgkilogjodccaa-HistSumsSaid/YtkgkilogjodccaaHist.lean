/-
  The walks of package hist (Right, Bin, Of, Edge, Total) and of the law's own helpers.
-/
import Derived.Test.YtkgkilogjodccaaProg
import Derived.Test.YtkgkilogjodccaaOwn
import Derived.Test.YtkgkilogjodccaaEqInt
import Derived.Test.YtkgkilogjodccaaHistPlain
import Derived.Deep.OwnRows
namespace Go.Proofs.Ytkgkilogjodccaa
open Go.RowKit HB HistP

theorem Hist.info : (Try.prog.info? 3).map (fun i => (i.zero, i.size, i.bytes)) = some (some (.int .i64 0), 1, 8) := by kernel_rfl
theorem hist_right (b d : Int) (w : World) : Calls Try.prog 28 #[.int .i64 b, .int .i64 d] w fun e w' => e = .returned (.bool (right b d)) ∧ w = w' := by
  go_enter Try.func28, Try.ntmps28
  go_wp2_with fail
  all_goals
    go_ret
    exact ⟨ret_bool (by rw [Bool.eq_iff_iff]; simp [right]; omega), rfl⟩
theorem right_law (b d : Int) (w : World) : Calls Try.prog 26 #[.int .i64 b, .int .i64 d] w fun e w' => e = .returned (.bool (right b d)) ∧ w = w' := by
  go_enter Try.func26, Try.ntmps26
  go_wp2_with fail
  all_goals
    go_ret
    exact ⟨ret_bool (by rw [Bool.eq_iff_iff]; simp [right]; omega), rfl⟩

/-- What Bin answers. -/
def Hist.bin (b d n : Int) : Int × Int := if right b d = true then (if n < 0 then (0, 10) else (binOf b d n, 0)) else (0, 22)
theorem hist_bin (b d n : Int) (hn1 : n ≤ 9223372036854775807) (w : World) : Calls Try.prog 27 #[.int .i64 b, .int .i64 d, .int .i64 n] w fun e w' => e = .returned (.tuple #[.int .i64 (Hist.bin b d n).1, .int .i64 (Hist.bin b d n).2]) ∧ w = w' := by
  cases hr : right b d with
  | false =>
    have e : Hist.bin b d n = (0, 22) := by unfold Hist.bin; rw [hr]; rfl
    rw [e]
    have HR := hide hr
    clear e hr
    go_enter Try.func27, Try.ntmps27
    go_wp2_with (go_at_call 28; refine (hist_right _ _ _).mono ?_; rintro e w' ⟨rfl, rfl⟩; simp only [HR.out])
    go_ret2
    exact ⟨rfl, rfl⟩
  | true =>
    obtain ⟨b1, b2, d1, d2⟩ := right_yes hr
    by_cases hn : n < 0
    · have e : Hist.bin b d n = (0, 10) := by unfold Hist.bin; rw [hr, if_pos rfl, if_pos hn]
      rw [e]
      have HR := hide hr
      clear e hr
      go_enter Try.func27, Try.ntmps27
      go_wp2_with (go_at_call 28; refine (hist_right _ _ _).mono ?_; rintro e w' ⟨rfl, rfl⟩; simp only [HR.out])
      go_ret2
      exact ⟨rfl, rfl⟩
    · have e : Hist.bin b d n = (binOf b d n, 0) := by unfold Hist.bin; rw [hr, if_pos rfl, if_neg hn]
      rw [e]
      have HR := hide hr
      have hn0 : 0 ≤ n := by omega
      have q0 : 0 ≤ n / d := Int.ediv_nonneg hn0 (by omega)
      have q1 : n / d ≤ n := Int.ediv_le_self d hn0
      have q2 : n / d ≤ 9223372036854775807 := by omega
      clear e hr
      go_enter Try.func27, Try.ntmps27
      go_wp2_with (go_at_call 28; refine (hist_right _ _ _).mono ?_; rintro e w' ⟨rfl, rfl⟩; simp only [HR.out])
      go_ret2
      exact ⟨rfl, rfl⟩

theorem hist_of_no (A : Option Addr) (n c : Nat) (b d : Int) (hr : right b d = false) (w : World) :
    Calls Try.prog 25 #[.int .i64 b, .int .i64 d, .slice A n c] w fun e w' => e = .returned (.tuple #[.slice none 0 0, .int .i64 22]) ∧ w = w' := by
  have HR := hide hr
  clear hr
  go_enter Try.func25, Try.ntmps25
  go_wp2_with (go_at_call 28; refine (hist_right _ _ _).mono ?_; rintro e w' ⟨rfl, rfl⟩; simp only [HR.out])
  go_ret2
  exact ⟨rfl, rfl⟩

def Hist.Rel (ts : List Int) (b d : Int) (m : Nat) (w : World) (i : Value) (wr : World) : Prop :=
  ∃ k : Nat, k ≤ ts.length ∧ i = .int .i64 k ∧ (∀ t ∈ ts.take k, 0 ≤ t) ∧ Own wr w.heap.size 3 1 (num .i64) (.slice (some ⟨w.heap.size, 0, none⟩) m m) (counts b d m (ts.take k)) ∧ Below w.heap.size w wr ∧ w.heap.size < wr.heap.size
def Hist.Post (ts : List Int) (b d : Int) (m : Nat) (w : World) (e : Ending) (w' : World) : Prop :=
  Below w.heap.size w w' ∧ ((¬ (∀ t ∈ ts, 0 ≤ t) ∧ e = .returned (.tuple #[.slice none 0 0, .int .i64 10])) ∨
  ((∀ t ∈ ts, 0 ≤ t) ∧ ∃ v, e = .returned (.tuple #[v, .int .i64 0]) ∧ Own w' w.heap.size 3 1 (num .i64) v (counts b d m ts)))
set_option maxRecDepth 100000 in
set_option maxHeartbeats 2000000 in
theorem hist_of (A : Option Addr) (n c B m : Nat) (ts : List Int) (d : Int) (w : World) (hr : Rd w B 1 A n (ts.map (Value.int .i64))) (hB : B ≤ w.heap.size) (hl : ts.length = n) (hn : n ≤ 200) (hw : ∀ x ∈ ts, (Lit.int .i64 x).wf = true)
    (hrt : right m d = true) :
    Calls Try.prog 25 #[.int .i64 m, .int .i64 d, .slice A n c] w (Hist.Post ts m d m w) := by
  obtain ⟨b1, b2, d1, d2⟩ := right_yes hrt
  have hmk := fun (W : World) => run_make_row' (P := Try.prog) 35 3 (.int .i64 0) 8 Try.underlying35 Hist.info rfl .i64 .i64 m (by omega) (by omega) W
  have Hl := hide hl
  have Hw := hide hw
  have HR := hide hrt
  have hown0 := Own.made (base := w.heap.size) (k := .i64) w 3 m (Nat.le_refl _) (by omega)
  rw [← counts_nil m d] at hown0
  have Ho := hide hown0
  clear hl hw hrt hown0
  go_enter Try.func25, Try.ntmps25
  go_wp2_with (go_at_call 28; refine (hist_right _ _ _).mono ?_; rintro e w' ⟨rfl, rfl⟩; simp only [HR.out])
  clear hmk
  go_loopw [21] (fun i wr => Hist.Rel ts m d m w i wr) (fun i _ => n - (intOf i).toNat)
  case atStart => exact ⟨0, Nat.zero_le _, rfl, by simp, Ho.out, by go_grown, by simp⟩
  case round =>
    obtain ⟨k, hk, rfl, hpos, hown, hbel, hsz⟩ := hrel
    rw [Hl.out] at hk
    have HP := hide hpos
    clear hpos
    by_cases hlt : k < n
    · obtain ⟨b, off, x, rfl, hb, hg, c0⟩ := (hr.below (hbel.mono hB)).int_at Hl.out hlt
      have hwx := bounds_i64 (Hw.out x (List.mem_of_getElem? hg))
      have htk := hide (show ts.take (k + 1) = ts.take k ++ [x] by rw [List.take_add_one, hg]; rfl)
      have hlk : (ts.take k).length ≤ 200 := by rw [List.length_take, Hl.out]; omega
      have HG := hide hg
      have HO := hide hown
      clear hg hown
      by_cases hx : x < 0
      · have e : Hist.bin m d x = (0, 10) := by unfold Hist.bin; rw [HR.out, if_pos rfl, if_pos hx]
        have E := hide e
        clear e
        go_wp2_with (go_at_call 27; refine (hist_bin _ _ _ hwx.2 _).mono ?_; rintro e w' ⟨rfl, rfl⟩; simp only [E.out])
        go_ret2
        exact ⟨hbel, .inl ⟨fun h => by have := h x (List.mem_of_getElem? HG.out); omega, rfl⟩⟩
      · have hx0 : 0 ≤ x := by omega
        have e : Hist.bin m d x = (binOf m d x, 0) := by unfold Hist.bin; rw [HR.out, if_pos rfl, if_neg hx]
        have E := hide e
        obtain ⟨p0, p1⟩ := binOf_range b1 d1 hx0
        obtain ⟨q, hq⟩ := Int.eq_ofNat_of_zero_le p0
        rw [hq] at p1
        obtain ⟨y, hy, cy, fy⟩ := HO.out.int_at (counts_length _ _ _ _) (j := q) (by omega)
        have hyq := counts_get (by omega) hy
        have hr1 := cnt_range m d (ts.take k) q
        rw [← hyq] at hr1
        have HY := hide hyq
        have hst := hide (HO.out.store (counts_length _ _ _ _) q (y + 1))
        clear hy hyq e
        have p2 : (0 : Int) ≤ (q : Int) := by omega
        have Hq := hide hq
        clear hq
        go_wp2_with (go_at_call 27; refine (hist_bin _ _ _ hwx.2 _).mono ?_; rintro e w' ⟨rfl, rfl⟩; simp only [E.out, Hq.out])
        go_roundw
        case rel =>
          refine ⟨k + 1, by rw [Hl.out]; omega, by go_num, ?_, ?_, hbel.trans hst.out.2, by go_size⟩
          · rw [htk.out]; intro t ht
            rcases List.mem_append.1 ht with h | h
            · exact HP.out t h
            · simp at h; omega
          · rw [htk.out, ← counts_in hx0 Hq.out, ← HY.out]
            exact hst.out.1
        case measure => simp [intOf]; omega
    · have hf : ts.take k = ts := List.take_of_length_le (by rw [Hl.out]; omega)
      rw [hf] at hown
      have HP2 := HP.out
      rw [hf] at HP2
      have HQ := hide HP2
      have HO := hide hown
      clear hown hf HP HP2
      go_wp2_with fail
      go_ret2
      exact ⟨hbel, .inr ⟨HQ.out, _, rfl, HO.out⟩⟩

set_option maxRecDepth 100000 in
set_option maxHeartbeats 2000000 in
theorem hist_alive (w : World) : Calls Try.prog 29 #[] w fun e w' => e = .returned (.bool true) ∧ Below w.heap.size w w' := by
  have hw : ∀ x ∈ [(5 : Int), 25, 99], (Lit.int .i64 x).wf = true := by decide
  have Hw := hide hw
  clear hw
  go_enter Try.func29, Try.ntmps29
  go_wp2_with fail
  refine (hist_of _ 3 3 _ 3 [5, 25, 99] 10 _ (Rd.new w 3 (xs := [.int .i64 5, .int .i64 25, .int .i64 99]) rfl) (by simp) rfl (by omega) Hw.out (by decide)).mono ?_; rintro e w1 ⟨hb1, hpost⟩
  rcases hpost with ⟨hno, _⟩ | ⟨_, v, rfl, hown⟩
  · exact absurd (by decide) hno
  obtain ⟨A, c, rfl, hc, hrd⟩ := hown.ints
  have e1 : counts ((3 : Nat) : Int) 10 3 [5, 25, 99] = [1, 0, 2] := by decide
  simp only [e1] at hc hrd ⊢
  clear hown e1
  have HR := hide (hrd.alloc (Nat.le_refl _) (.cells #[.int .i64 1, .int .i64 0, .int .i64 2] 3))
  clear hrd
  go_wp2_with fail
  refine (eqInt _ _ _ _ _ _ _ _ [1, 0, 2] [1, 0, 2] _ HR.out (Rd.new w1 3 (xs := [.int .i64 1, .int .i64 0, .int .i64 2]) rfl) (by simp) (by omega)).mono ?_; rintro e w2 ⟨rfl, m, rfl⟩
  simp only [decide_true]
  go_wp2_with fail
  go_ret
  exact ⟨rfl, below_drewN (Below.alloc (then_ (by go_grown) hb1 (by simp)) (by have := hb1.size; simp at this; omega) _) _⟩

theorem hist_total (A : Option Addr) (n c B : Nat) (l : List Int) (w : World) (hr : Rd w B 1 A n (l.map (Value.int .i64))) (hl : l.length = n) (hn : n ≤ 1000000000) (hs : ∀ k, -9000000000000000000 ≤ sum (l.take k) ∧ sum (l.take k) ≤ 9000000000000000000) :
    Calls Try.prog 32 #[.slice A n c] w fun e w' => e = .returned (.int .i64 (sum l)) ∧ w = w' := by
  have Hl := hide hl
  have Hs := hide hs
  clear hl hs
  go_enter Try.func32, Try.ntmps32
  go_wp2_with fail
  go_loop [3, 8] (fun s i => ∃ k : Nat, k ≤ n ∧ i = .int .i64 k ∧ s = .int .i64 (sum (l.take k))) (fun _ i => n - (intOf i).toNat)
  case atStart => exact ⟨0, Nat.zero_le _, rfl, rfl⟩
  case round =>
    obtain ⟨k, hk, rfl, rfl⟩ := hrel
    by_cases hlt : k < n
    · obtain ⟨b, off, x, rfl, hb, hg, c0⟩ := hr.int_at Hl.out hlt
      have hs1 := Hs.out (k + 1)
      have htk : sum (l.take (k + 1)) = sum (l.take k) + x := by rw [List.take_add_one, hg, sum_append]; simp [sum]
      rw [htk] at hs1
      have T := hide htk
      clear htk hg hr
      go_wp2_with fail
      go_round
      case rel => exact ⟨k + 1, by omega, by go_num, by rw [T.out]⟩
      case measure => simp [intOf]; omega
    · have hf : l.take k = l := List.take_of_length_le (by rw [Hl.out]; omega)
      rw [hf]
      go_wp2_with fail
      go_ret
      exact ⟨rfl, rfl⟩
end Go.Proofs.Ytkgkilogjodccaa
