/-
  The walks of pulse.Count.
-/
import Derived.Test.YtkgkilogjodccaaProg
import Derived.Test.YtkgkilogjodccaaOwn
import Derived.Test.YtkgkilogjodccaaEqInt
import Derived.Test.YtkgkilogjodccaaPulsePlain
import Derived.Deep.OwnRows
namespace Go.Proofs.Ytkgkilogjodccaa
open Go.RowKit HB PulseP

theorem Pulse.info : (Try.prog.info? 3).map (fun i => (i.zero, i.size, i.bytes)) = some (some (.int .i64 0), 1, 8) := by kernel_rfl

theorem count_arg (A : Option Addr) (n c : Nat) (wd hz : Int) (h : wd < 1 ∨ hz < 0) (w : World) :
    Calls Try.prog 36 #[.slice A n c, .int .i64 wd, .int .i64 hz] w fun e w' => e = .returned (.tuple #[.slice none 0 0, .int .i64 22]) ∧ w = w' := by
  by_cases h1 : wd < 1
  · clear h
    go_enter Try.func36, Try.ntmps36
    go_wp2_with fail
    go_ret2
    exact ⟨rfl, rfl⟩
  · have h2 : hz < 0 := by omega
    clear h
    go_enter Try.func36, Try.ntmps36
    go_wp2_with fail
    go_ret2
    exact ⟨rfl, rfl⟩

theorem Pulse.many_cases {h w : Int} (h0 : 0 ≤ h) (h1 : 1 ≤ w) (hb : h ≤ 9223372036854775807) : 0 ≤ h / w ∧ h / w ≤ 9223372036854775807 ∧ ((0 < h % w ∧ many h w = h / w + 1 ∧ h / w ≤ 9223372036854775806) ∨ (¬ 0 < h % w ∧ many h w = h / w)) := by
  have q0 := Int.ediv_nonneg h0 (show 0 ≤ w by omega)
  have q1 := Int.ediv_le_self w h0
  refine ⟨q0, by omega, ?_⟩
  unfold many
  by_cases hp : 0 < h % w
  · refine .inl ⟨hp, by rw [if_pos hp], ?_⟩
    have e1 := Int.mul_ediv_add_emod h w
    rcases Int.lt_or_le 1 w with h3 | h3
    · have := Int.mul_le_mul_of_nonneg_right (show 2 ≤ w by omega) q0
      omega
    · have h4 : w = 1 := by omega
      subst h4
      omega
  · exact .inr ⟨hp, by rw [if_neg hp]; omega⟩

theorem count_size (A : Option Addr) (n c : Nat) (wd hz : Int) (h1 : 1 ≤ wd) (h0 : 0 ≤ hz) (h2 : hz ≤ 9223372036854775807) (hm : 65536 < many hz wd) (w : World) :
    Calls Try.prog 36 #[.slice A n c, .int .i64 wd, .int .i64 hz] w fun e w' => e = .returned (.tuple #[.slice none 0 0, .int .i64 21]) ∧ w = w' := by
  obtain ⟨q0, q1, ⟨hp, hq, q2⟩ | ⟨hp, hq⟩⟩ := Pulse.many_cases h0 h1 h2
  all_goals
    rw [hq] at hm
    clear hq
    go_enter Try.func36, Try.ntmps36
    go_wp2_with fail
    go_ret2
    exact ⟨rfl, rfl⟩

def Pulse.Rel (ts : List Int) (hz wd : Int) (m : Nat) (w : World) (i : Value) (wr : World) : Prop :=
  ∃ k : Nat, k ≤ ts.length ∧ i = .int .i64 k ∧ Own wr w.heap.size 3 1 (num .i64) (.slice (some ⟨w.heap.size, 0, none⟩) m m) (counts hz wd m (ts.take k)) ∧ Below w.heap.size w wr ∧ w.heap.size < wr.heap.size
def Pulse.Post (ts : List Int) (hz wd : Int) (m : Nat) (w : World) (e : Ending) (w' : World) : Prop :=
  ∃ v, e = .returned (.tuple #[v, .int .i64 0]) ∧ Own w' w.heap.size 3 1 (num .i64) v (counts hz wd m ts) ∧ Below w.heap.size w w'
set_option maxRecDepth 100000 in
set_option maxHeartbeats 2000000 in
theorem count_ok (A : Option Addr) (n c B m : Nat) (ts : List Int) (wd hz : Int) (w : World) (hr : Rd w B 1 A n (ts.map (Value.int .i64))) (hB : B ≤ w.heap.size) (hl : ts.length = n) (hn : n ≤ 100) (hw : ∀ x ∈ ts, (Lit.int .i64 x).wf = true)
    (h1 : 1 ≤ wd) (h0 : 0 ≤ hz) (h2 : hz ≤ 9223372036854775807) (h3 : wd ≤ 9223372036854775807) (hm : many hz wd = m) (hm1 : m ≤ 65536) :
    Calls Try.prog 36 #[.slice A n c, .int .i64 wd, .int .i64 hz] w (Pulse.Post ts hz wd m w) := by
  have hmk := fun (W : World) => run_make_row' (P := Try.prog) 35 3 (.int .i64 0) 8 Try.underlying35 Pulse.info rfl .i64 .i64 m (by omega) (by omega) W
  have Hl := hide hl
  have Hw := hide hw
  clear hl hw
  have hpl := fun t (t0 : 0 ≤ t) (th : t < hz) => place (h := hz) (w := wd) (t := t) h1 t0 th
  rw [hm] at hpl
  have Hpl := hide hpl
  have hown0 := Own.made (base := w.heap.size) (k := .i64) w 3 m (Nat.le_refl _) (by omega)
  rw [← counts_nil hz wd] at hown0
  have Ho := hide hown0
  obtain ⟨q0, q1, hcase⟩ := Pulse.many_cases h0 h1 h2
  rw [hm] at hcase
  have hcase2 : (0 < hz % wd ∧ hz / wd ≤ 9223372036854775806 ∧ hz / wd + 1 = m) ∨ (¬ 0 < hz % wd ∧ hz / wd = m) := by omega
  clear hpl hm hcase hown0
  rcases hcase2 with ⟨hp, q2, hq⟩ | ⟨hp, hq⟩
  all_goals
    go_enter Try.func36, Try.ntmps36
    go_wp2_with fail
    clear hmk hq
    go_loopw [33] (fun i wr => Pulse.Rel ts hz wd m w i wr) (fun i _ => n - (intOf i).toNat)
    case atStart => exact ⟨0, Nat.zero_le _, rfl, Ho.out, by go_grown, by simp⟩
    case round =>
      obtain ⟨k, hk, rfl, hown, hbel, hsz⟩ := hrel
      rw [Hl.out] at hk
      by_cases hlt : k < n
      · obtain ⟨b, off, x, rfl, hb, hg, c0⟩ := (hr.below (hbel.mono hB)).int_at Hl.out hlt
        have hwx := bounds_i64 (Hw.out x (List.mem_of_getElem? hg))
        have htk := hide (show ts.take (k + 1) = ts.take k ++ [x] by rw [List.take_add_one, hg]; rfl)
        have hlk : (ts.take k).length ≤ 100 := by rw [List.length_take, Hl.out]; omega
        have HO := hide hown
        clear hg hown
        by_cases hin : 0 ≤ x ∧ x < hz
        · obtain ⟨x0, x1⟩ := hin
          obtain ⟨p0, p1⟩ := Hpl.out x x0 x1
          obtain ⟨q, hq⟩ := Int.eq_ofNat_of_zero_le p0
          rw [hq] at p1
          obtain ⟨y, hy, cy, fy⟩ := HO.out.int_at (counts_length _ _ _ _) (j := q) (by omega)
          have hyq := counts_get (by omega) hy
          have hr1 := cnt_range hz wd (ts.take k) q
          rw [← hyq] at hr1
          have HY := hide hyq
          have hst := hide (HO.out.store (counts_length _ _ _ _) q (y + 1))
          clear hy hyq
          have p2 : (0 : Int) ≤ (q : Int) := by omega
          have Hq := hide hq
          go_wp2_with fail
          go_roundw
          case rel =>
            refine ⟨k + 1, by rw [Hl.out]; omega, by go_num, ?_, hbel.trans hst.out.2, by go_size⟩
            rw [htk.out, ← counts_in x0 x1 Hq.out, ← HY.out]
            exact hst.out.1
          case measure => simp [intOf]; omega
        · have hno : x < 0 ∨ (0 ≤ x ∧ hz ≤ x) := by omega
          have hst := hide (counts_out (m := m) (w := wd) (ts := ts.take k) hin)
          clear hin
          rcases hno with h5 | ⟨h5, h6⟩
          all_goals
            go_wp2_with fail
            go_roundw
            case rel => exact ⟨k + 1, by rw [Hl.out]; omega, by go_num, by rw [htk.out, hst.out]; exact HO.out, hbel, hsz⟩
            case measure => simp [intOf]; omega
      · have hf : ts.take k = ts := List.take_of_length_le (by rw [Hl.out]; omega)
        rw [hf] at hown
        have HO := hide hown
        clear hown hf
        go_wp2_with fail
        go_ret2
        exact ⟨_, rfl, HO.out, hbel⟩
end Go.Proofs.Ytkgkilogjodccaa
