/-
  The walks of hist.Add, hist.Wider and hist.Total (sums as they wrap).
-/
import Derived.Test.YtkgkilogjodccaaHist
import Derived.Test.YtkgkilogjodccaaSums
namespace Go.Proofs.Ytkgkilogjodccaa
open Go.RowKit HB
set_option linter.unusedVariables false
set_option linter.unusedSimpArgs false
namespace SumH
open HistP (sum sum_append sum_set)
def sm (x y : List Int) (i : Nat) : Int := wrap64 (x.getD i 0 + y.getD i 0)
def adds (x y : List Int) (m : Nat) : List Int := (List.range m).map (sm x y)
theorem adds_comm (x y : List Int) (m : Nat) : adds x y m = adds y x m := by
  unfold adds; congr 1; funext i; unfold sm; rw [Int.add_comm]
theorem adds_next (x y : List Int) (m : Nat) : adds x y (m + 1) = adds x y m ++ [sm x y m] := by
  unfold adds; rw [List.range_succ, List.map_append]; rfl
theorem adds_length (x y : List Int) (m : Nat) : (adds x y m).length = m := by simp [adds]
def prt (x y : List Int) (j : Nat) : List Int := (List.range x.length).map fun i => if i < j then sm x y i else x.getD i 0
theorem prt_length (x y : List Int) (j : Nat) : (prt x y j).length = x.length := by simp [prt]
theorem prt_zero (x y : List Int) : prt x y 0 = x := by
  apply List.ext_getElem?
  intro i
  by_cases hi : i < x.length
  · simp [prt, hi, List.getD]
  · simp [prt, hi]
theorem prt_get {x y : List Int} {j : Nat} {z u : Int} (hz : (prt x y j)[j]? = some z) (hu : x[j]? = some u) : z = u := by
  have hj : j < x.length := (List.getElem?_eq_some_iff.1 hu).1
  simp [prt, hj, List.getD] at hz
  rw [← hz]; have := (List.getElem?_eq_some_iff.1 hu).2; exact this
theorem prt_next {x y : List Int} {j : Nat} {u v : Int} (hu : x[j]? = some u) (hv : y[j]? = some v) : (prt x y j).set j (wrap64 (u + v)) = prt x y (j + 1) := by
  have hj : j < x.length := (List.getElem?_eq_some_iff.1 hu).1
  apply List.ext_getElem?
  intro i
  rw [List.getElem?_set, prt_length]
  by_cases hi : j = i
  · subst hi
    rw [if_pos rfl, if_pos hj]
    have hu' : x[j] = u := by have := (List.getElem?_eq_some_iff.1 hu).2; exact this
    simp [prt, hj, sm, List.getD, hv, hu']
  · rw [if_neg hi]
    by_cases hi2 : i < x.length
    · have : (i < j + 1) = (i < j) := by apply propext; omega
      simp [prt, hi2, this]
    · simp [prt, hi2]
theorem prt_end {x y : List Int} {j : Nat} (hj : y.length ≤ j) (hw : ∀ u ∈ x, wrap64 u = u) : prt x y j = adds x y x.length := by
  apply List.ext_getElem?
  intro i
  by_cases hi : i < x.length
  · have hx := hw x[i] (List.getElem_mem _)
    by_cases hij : i < j
    · simp [prt, adds, hi, hij]
    · have : y[i]? = none := List.getElem?_eq_none (by omega)
      simp [prt, adds, hi, hij, sm, List.getD, this, hx]
  · simp [prt, adds, hi]
/-- bins together, so many each: of the first j -/
def wide (l : List Int) (k : Int) : Nat → List Int
  | 0 => []
  | j + 1 =>
    let g := if (j : Int) % k = 0 then wide l k j ++ [0] else wide l k j
    g.set (g.length - 1) (wrap64 (g.getD (g.length - 1) 0 + l.getD j 0))
def grown (l : List Int) (k : Int) (j : Nat) : List Int := if (j : Int) % k = 0 then wide l k j ++ [0] else wide l k j
theorem wide_next {l : List Int} {k : Int} {j m : Nat} {x z : Int} (hx : l[j]? = some x) (hm : (grown l k j).length = m) (hz : (grown l k j)[m - 1]? = some z) : (grown l k j).set (m - 1) (wrap64 (z + x)) = wide l k (j + 1) := by
  subst hm
  show _ = (grown l k j).set ((grown l k j).length - 1) (wrap64 ((grown l k j).getD ((grown l k j).length - 1) 0 + l.getD j 0))
  simp [List.getD, hz, hx]
theorem div_next {j k : Int} (h0 : 0 ≤ j) (hk : 1 ≤ k) : (j + 1) / k = (if j % k + 1 = k then j / k + 1 else j / k) ∧ ((j + 1) % k = 0 ↔ j % k + 1 = k) := by
  have e := Int.mul_ediv_add_emod j k
  have r0 := Int.emod_nonneg j (show k ≠ 0 by omega)
  have r1 := Int.emod_lt_of_pos j (show 0 < k by omega)
  have e1 : j + 1 = (j % k + 1) + k * (j / k) := by omega
  have d : (j + 1) / k = (j % k + 1) / k + j / k := by
    conv => lhs; rw [e1]
    exact Int.add_mul_ediv_left _ _ (by omega)
  have m : (j + 1) % k = (j % k + 1) % k := by
    conv => lhs; rw [e1]
    exact Int.add_mul_emod_self_left _ _ _
  by_cases h : j % k + 1 = k
  · refine ⟨?_, ?_⟩
    · rw [d, if_pos h, h, Int.ediv_self (by omega)]; omega
    · rw [m, h, Int.emod_self]; simp
  · refine ⟨?_, ?_⟩
    · rw [d, if_neg h, Int.ediv_eq_zero_of_lt (by omega) (by omega)]; omega
    · rw [m, Int.emod_eq_of_lt (by omega) (by omega)]; constructor <;> intro h' <;> omega
theorem wide_len {l : List Int} {k : Int} (hk : 1 ≤ k) : ∀ j : Nat, ((wide l k j).length : Int) = if (j : Int) % k = 0 then (j : Int) / k else (j : Int) / k + 1
  | 0 => by simp [wide]
  | j + 1 => by
    have ih := wide_len (l := l) hk j
    obtain ⟨d1, d2⟩ := div_next (j := j) (k := k) (by omega) hk
    have hl : ((wide l k (j + 1)).length : Int) = (j : Int) / k + 1 := by
      show (((if (j : Int) % k = 0 then wide l k j ++ [0] else wide l k j).set _ _).length : Int) = _
      rw [List.length_set]
      split
      · rename_i h; rw [if_pos h] at ih; simp [ih]
      · rename_i h; rw [if_neg h] at ih; rw [ih]
    rw [hl, show ((j + 1 : Nat) : Int) = (j : Int) + 1 from rfl, d1]
    by_cases h : (j : Int) % k + 1 = k
    · rw [if_pos (d2.2 h), if_pos h]
    · rw [if_neg (fun h' => h (d2.1 h')), if_neg h]
theorem grown_len {l : List Int} {k : Int} (hk : 1 ≤ k) (j : Nat) : ((grown l k j).length : Int) = (j : Int) / k + 1 := by
  have := wide_len (l := l) hk j
  unfold grown
  split
  · rename_i h; rw [if_pos h] at this; simp [this]
  · rename_i h; rw [if_neg h] at this; exact this
theorem sum_snoc0 (l : List Int) : sum (l ++ [0]) = sum l := by rw [sum_append]; simp [sum]
theorem grown_sum (l : List Int) (k : Int) (j : Nat) : sum (grown l k j) = sum (wide l k j) := by
  unfold grown; split
  · exact sum_snoc0 _
  · rfl
theorem wide_sum {l : List Int} {k : Int} (hk : 1 ≤ k) : ∀ j : Nat, j ≤ l.length → wrap64 (sum (wide l k j)) = wrap64 (sum (l.take j))
  | 0, _ => rfl
  | j + 1, h => by
    have ih := wide_sum (l := l) hk j (by omega)
    have hx : l[j]? = some l[j] := List.getElem?_eq_getElem _
    generalize l[j] = x at hx
    have hlen := grown_len (l := l) hk j
    have hq : 0 ≤ (j : Int) / k := Int.ediv_nonneg (by omega) (by omega)
    have hz : (grown l k j)[(grown l k j).length - 1]? = some ((grown l k j)[(grown l k j).length - 1]'(by omega)) := List.getElem?_eq_getElem _
    generalize (grown l k j)[(grown l k j).length - 1]'(by omega) = z at hz
    rw [← wide_next hx rfl hz, sum_set _ _ z _ hz, grown_sum]
    have e : sum (l.take (j + 1)) = sum (l.take j) + x := by rw [List.take_add_one, hx, sum_append]; simp [sum]
    rw [e]
    generalize sum (wide l k j) = s at *
    generalize sum (l.take j) = t at *
    unfold wrap64 at *
    omega
end SumH
open SumH HistP

set_option maxHeartbeats 1000000 in
theorem hist_total_w (A : Option Addr) (n c B : Nat) (l : List Int) (w : World) (hr : Rd w B 1 A n (l.map (Value.int .i64))) (hl : l.length = n) (hn : n ≤ 1000000000) :
    Calls Try.prog 32 #[.slice A n c] w fun e w' => e = .returned (.int .i64 (wrap64 (HistP.sum l))) ∧ w = w' := by
  have Hl := hide hl
  clear hl
  have h0 := hide (show wrap64 0 = 0 by unfold wrap64; omega)
  go_enter Try.func32, Try.ntmps32
  go_wp2_with fail
  go_loop [3, 8] (fun s i => ∃ k : Nat, k ≤ n ∧ i = .int .i64 k ∧ s = .int .i64 (wrap64 (HistP.sum (l.take k)))) (fun _ i => n - (intOf i).toNat)
  case atStart => exact ⟨0, Nat.zero_le _, rfl, by rw [show HistP.sum (l.take 0) = 0 from rfl, h0.out]⟩
  case round =>
    obtain ⟨k, hk, rfl, rfl⟩ := hrel
    by_cases hlt : k < n
    · obtain ⟨b, off, x, rfl, hb, hg, c0⟩ := hr.int_at Hl.out hlt
      have htk : wrap64 (wrap64 (HistP.sum (l.take k)) + x) = wrap64 (HistP.sum (l.take (k + 1))) := by rw [Sums.w_add, List.take_add_one, hg, sum_append]; simp [HistP.sum]
      have T := hide htk
      clear htk hg hr
      generalize hs : wrap64 (HistP.sum (l.take k)) = s at *
      clear hs
      go_wp2_with fail
      go_round
      case rel => exact ⟨k + 1, by omega, by go_num, by rw [← T.out]⟩
      case measure => simp [intOf]; omega
    · have hf : l.take k = l := List.take_of_length_le (by rw [Hl.out]; omega)
      rw [hf]
      generalize hs : wrap64 (HistP.sum l) = s
      have S := hide hs
      clear hs
      go_wp2_with fail
      go_ret
      exact ⟨by rw [S.out]; rfl, rfl⟩

def Wider.Post (l : List Int) (k : Int) (w : World) (e : Ending) (w' : World) : Prop :=
  ∃ v, e = .returned (.tuple #[v, .int .i64 0]) ∧ Own w' w.heap.size 3 1 (num .i64) v (wide l k l.length) ∧ Below w.heap.size w w'
theorem hist_wider_no (A : Option Addr) (n c : Nat) (k : Int) (w : World) (hk : k < 1) :
    Calls Try.prog 34 #[.slice A n c, .int .i64 k] w fun e w' => e = .returned (.tuple #[.slice none 0 0, .int .i64 22]) ∧ w = w' := by
  go_enter Try.func34, Try.ntmps34
  go_wp2_with fail
  go_ret2
  exact ⟨rfl, rfl⟩

set_option maxRecDepth 100000 in
set_option maxHeartbeats 2000000 in
theorem hist_wider (A : Option Addr) (n c B : Nat) (l : List Int) (k : Int) (w : World) (hr : Rd w B 1 A n (l.map (Value.int .i64))) (hB : B ≤ w.heap.size) (hl : l.length = n) (hn : n ≤ 100) (hk : 1 ≤ k) (hk1 : k ≤ 9223372036854775807) :
    Calls Try.prog 34 #[.slice A n c, .int .i64 k] w (Wider.Post l k w) := by
  have Hl := hide hl
  have Hk := hide hk
  have Hk1 := hide hk1
  have d1 : decide (k < 1) = false := by simp; omega
  have kz : (k == 0) = false := by rw [beq_eq_false_iff_ne]; omega
  clear hl hk1
  go_enter Try.func34, Try.ntmps34
  go_wp2_with fail
  go_loopw [6, 13] (fun o i wr => ∃ j : Nat, j ≤ n ∧ i = .int .i64 j ∧ Own wr w.heap.size 3 1 (num .i64) o (wide l k j) ∧ Below w.heap.size w wr) (fun _ i _ => n - (intOf i).toNat)
  case atStart => exact ⟨0, Nat.zero_le _, rfl, Own.nil _ _ _ _ _, Below.refl _ _⟩
  case round =>
    obtain ⟨j, hj, rfl, hown, hbel⟩ := hrel
    have hz := hbel.size
    have HO := hide hown
    clear hown
    by_cases hlt : j < n
    · have HR := hide (hr.below (hbel.mono hB))
      clear hr
      obtain ⟨b, off, x, rfl, hb, hg, c0⟩ := HR.out.int_at Hl.out hlt
      have Hg := hide hg
      clear hg
      have hlen := grown_len (l := l) Hk.out j
      obtain ⟨q, hq⟩ := Int.eq_ofNat_of_zero_le (show 0 ≤ (j : Int) / k from Int.ediv_nonneg (by omega) (by omega))
      have hqj : (j : Int) / k ≤ j := Int.ediv_le_self _ (by omega)
      obtain ⟨m, hm⟩ : ∃ m, (grown l k j).length = m := ⟨_, rfl⟩
      have hm1 : 1 ≤ m := by omega
      have hm2 : m ≤ 101 := by omega
      have Hm := hide hm
      have i0 : (0 : Int) ≤ (m : Int) - 1 := by omega
      have i1 : (m : Int) - 1 < (m : Int) := by omega
      have i2 : ((m : Int) - 1).toNat = m - 1 := by omega
      have tm : (j : Int).tmod k = (j : Int) % k := Int.tmod_eq_emod_of_nonneg (by omega)
      clear hlen hq hqj hm
      by_cases h0 : (j : Int) % k = 0
      · have hgr := hide (show wide l k j ++ [0] = grown l k j by unfold grown; rw [if_pos h0])
        have hL : (wide l k j).length ≤ 1000000000 := by
          have := congrArg List.length hgr.out; rw [Hm.out, List.length_append] at this; simp at this; omega
        have t0 : ((j : Int) % k == 0) = true := by simpa using h0
        have t1 : ((j : Int).tmod k == 0) = true := by rw [tm]; exact t0
        clear h0 tm
        go_wp2_with (at_builtin; refine push rfl _ _ 35 rfl Try.underlying35 Sums.info rfl (by omega) (by omega) rfl (HO.out.alloc _) 0 ⟨_, 0, none⟩ 1 rfl rfl (cell_one_new _ _ _) (by simp [Value.oneCell']) hL (Nat.le_trans hz (by simp)) ?_; intro v' w1 hown1 hb1; rw [hgr.out] at hown1; obtain ⟨g, cap, rfl, hgB, hgW, hcap, -, -⟩ := hown1.at_ (by rw [Hm.out]; omega); rw [Hm.out] at hown1 hcap ⊢; obtain ⟨z, hzg, cz, fz⟩ := hown1.int_at Hm.out (j := m - 1) (by omega); have Hz := hide hzg; clear hzg; have hst := hide (hown1.store Hm.out (m - 1) (wrap64 (z + x))); have HO1 := hide hown1; clear hown1)
        go_roundw
        case rel => exact ⟨j + 1, by omega, by go_num, by rw [← wide_next Hg.out Hm.out Hz.out]; exact hst.out.1, ((hbel.alloc hz _).trans hb1).trans hst.out.2⟩
        case measure => simp [intOf]; omega
      · have hgr := (show wide l k j = grown l k j by unfold grown; rw [if_neg h0])
        have t0 : ((j : Int) % k == 0) = false := by simpa using h0
        have t1 : ((j : Int).tmod k == 0) = false := by rw [tm]; exact t0
        have hown1 := HO.out
        rw [hgr] at hown1
        obtain ⟨g, cap, rfl, hgB, hgW, hcap, -, -⟩ := hown1.at_ (by rw [Hm.out]; omega)
        rw [Hm.out] at hown1 hcap
        simp only [Hm.out]
        obtain ⟨z, hzg, cz, fz⟩ := hown1.int_at Hm.out (j := m - 1) (by omega)
        have Hz := hide hzg
        have hst := hide (hown1.store Hm.out (m - 1) (wrap64 (z + x)))
        clear h0 tm hgr hzg hown1 HO
        go_wp2_with fail
        go_roundw
        case rel => exact ⟨j + 1, by omega, by go_num, by rw [← wide_next Hg.out Hm.out Hz.out]; exact hst.out.1, hbel.trans hst.out.2⟩
        case measure => simp [intOf]; omega
    · obtain rfl : j = n := by omega
      go_wp2_with fail
      go_ret2
      exact ⟨_, rfl, by rw [Hl.out]; exact HO.out, hbel⟩
end Go.Proofs.Ytkgkilogjodccaa
