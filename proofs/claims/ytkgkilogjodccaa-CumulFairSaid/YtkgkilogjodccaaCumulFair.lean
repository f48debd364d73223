/-
  The law CumulFair holds: whatever the rate, the call returns true and turns nothing. No condition.
-/
import Derived.Test.YtkgkilogjodccaaRows
import Derived.Test.YtkgkilogjodccaaFrame
import Derived.Test.YtkgkilogjodccaaFair
import Derived.Test.YtkgkilogjodccaaCumAlive
namespace Go.Proofs.Ytkgkilogjodccaa
open Go.ChangeShapes Go.WideShapes Go.ChangeAt Go.RowKit HB TabP TellP CumP
set_option linter.unusedVariables false
set_option linter.unusedSimpArgs false
theorem tb_get {rate : Int} {m j i : Nat} {x : Int} (h : (tb rate m j)[i]? = some x) : x = cell rate m i ∧ i < j := by
  have hi : i < j := by have := (List.getElem?_eq_some_iff.1 h).1; rwa [tb_length] at this
  simp [tb, hi] at h
  exact ⟨h.symm, hi⟩
theorem tb_rises {rate : Int} (h0 : 0 ≤ rate) (m : Nat) (hm : 1 ≤ m) : Rises (tb rate m m) := by
  intro i a b ha hb
  obtain ⟨rfl, -⟩ := tb_get ha
  obtain ⟨rfl, -⟩ := tb_get hb
  have p := S_pos h0 hm
  have l := S_le h0 (show i + 1 ≤ i + 1 + 1 by omega)
  exact Int.ediv_le_ediv (by omega) (by omega)
theorem tb_last {rate : Int} (h0 : 0 ≤ rate) (m : Nat) (hm : 1 ≤ m) : (tb rate m m)[m - 1]? = some 4294967296 := by
  have p := S_pos h0 hm
  have : cell rate m (m - 1) = 4294967296 := by
    unfold cell
    rw [show m - 1 + 1 = m by omega, Int.mul_comm]
    exact Int.mul_ediv_cancel _ (by omega)
  simp [tb, show m - 1 < m by omega, this]

def pc (rate : Int) (m : Nat) : Nat → Int
  | 0 => 0
  | q + 1 => cell rate m q
theorem pc_next {rate : Int} (h0 : 0 ≤ rate) (h1 : rate ≤ 4000) {m q : Nat} (hm : m ≤ 64) (hq : q < m) :
    pc rate m (q + 1) = pc rate m q + sh (tb rate m m) q ∧ 0 ≤ pc rate m q ∧ pc rate m q ≤ 4294967296 ∧ 0 ≤ sh (tb rate m m) q ∧ sh (tb rate m m) q ≤ 4294967296 := by
  have hs : sh (tb rate m m) q = dif (tb rate m m) q := by unfold sh; rw [tb_length, if_neg (by omega)]; rfl
  have hx : (tb rate m m)[q]? = some (cell rate m q) := by simp [tb, hq]
  have c1 := cell_range h0 h1 hq hm
  rw [hs]
  cases q with
  | zero => rw [dif_zero hx]; simp only [pc]; omega
  | succ q =>
    have hp : (tb rate m m)[q + 1 - 1]? = some (cell rate m q) := by simp [tb, show q < m by omega]
    rw [dif_next (by omega) hx hp]
    have c0 := cell_range h0 h1 (show q < m by omega) hm
    have hle := tb_rises h0 m (by omega) q _ _ (by simp [tb, show q < m by omega] : (tb rate m m)[q]? = some (cell rate m q)) hx
    simp only [pc]
    omega
set_option maxRecDepth 100000 in
set_option maxHeartbeats 4000000 in
theorem cumulFair_walk (rate : Int) (w : World) :
    Calls Try.prog 5 #[.int .i64 rate] w fun e w' => e = .returned (.bool true) ∧ Below w.heap.size w w' := by
  by_cases hno : rate < 0 ∨ 4000 < rate
  · have hor : rate < 0 ∨ (0 ≤ rate ∧ 4000 < rate) := by omega
    clear hno
    go_enter Try.func5, Try.ntmps5
    rcases hor with h | ⟨h, h'⟩
    all_goals
      go_wp2_with fail
      go_ret
      exact ⟨rfl, Below.refl _ _⟩
  have h0 : 0 ≤ rate := by omega
  have h1 : rate ≤ 4000 := by omega
  have r0 : decide (rate < 0) = false := by simp; omega
  have r1 : decide (4000 < rate) = false := by simp; omega
  clear hno
  go_enter Try.func5, Try.ntmps5
  go_wp2_with fail
  refine (cum_table rate h0 h1 _).mono ?_; rintro e w1 ⟨v, m, rfl, hm, hown, hb1⟩
  have m1 := hm.1
  have m64 := hm.2.1
  obtain ⟨f0, f1, f2, f3⟩ := mean_fair h0 h1 hm
  have hright : right (tb rate m m) = true := (right_iff _).2 ⟨tb_rises h0 m m1, by rw [tb_length]; exact tb_last h0 m m1⟩
  have hpc : pc rate m m = 4294967296 := by
    obtain ⟨j, rfl⟩ : ∃ j, m = j + 1 := ⟨m - 1, by omega⟩
    have := tb_last h0 (j + 1) m1
    simp [tb] at this
    exact this
  obtain ⟨A, c, rfl, hc, hrd⟩ := hown.ints
  rw [tb_length] at hc hrd
  simp only [tb_length]
  have HR := hide hrd
  have HG := hide hright
  have HP := hide hpc
  have HL := hide (tb_length rate m m)
  have d64 : decide (64 < m) = false := by simp; omega
  have d65 : decide ((64 : Int) < (m : Int)) = false := by simp; omega
  have PN := hide (fun (q : Nat) (hq : q < m) => pc_next h0 h1 m64 hq)
  clear hown hrd hm hright hpc
  generalize tb rate m m = l at *
  go_wp2_with fail
  refine (cumul_right A m c _ l _ HR.out HL.out (by omega)).mono ?_; rintro e w' ⟨rfl, rfl⟩; simp only [HG.out]
  go_wp2_with fail
  go_loopw [5, 6] (fun s i wr => ∃ q : Nat, q ≤ m ∧ i = .int .i64 q ∧ s = .int .u64 (pc rate m q) ∧ Rd wr w1.heap.size 1 A m (l.map (Value.int .u64)) ∧ Below w.heap.size w wr) (fun _ i _ => m - (intOf i).toNat)
  case atStart => exact ⟨0, Nat.zero_le _, rfl, rfl, HR.out, hb1⟩
  case round =>
    clear HR hb1
    obtain ⟨q, hq, rfl, rfl, hr, hbel⟩ := hrel
    have HR := hide hr
    clear hr
    by_cases hlt : q < m
    · obtain ⟨g1, g2, g3, g4, g5⟩ := PN.out q hlt
      have G1 := hide g1
      clear g1
      generalize pc rate m q = s at *
      go_wp2_with fail
      refine (cum_share_any A m c _ l _ HR.out HL.out (by omega) q).mono ?_; rintro e w' ⟨rfl, d, rfl⟩
      generalize sh l (q : Int) = y at *
      go_wp2_with fail
      go_roundw
      case rel => exact ⟨q + 1, by omega, by go_num, by rw [G1.out], HR.out.drewN d, below_drewN hbel d⟩
      case measure => simp [intOf]; omega
    · obtain rfl : q = m := by omega
      simp only [HP.out]
      go_wp2_with fail
      refine (cum_mean A q c _ l _ HR.out HL.out (by omega)).mono ?_; rintro e w' ⟨rfl, d, rfl⟩
      generalize mn l q = y at *
      have hbd := below_drewN hbel d
      rcases (show 1000 * y ≤ rate * 4294967296 ∨ rate * 4294967296 < 1000 * y by omega) with hle | hgt
      · have e1 : max (1000 * y) (rate * 4294967296) = rate * 4294967296 := by omega
        have e2 : min (1000 * y) (rate * 4294967296) = 1000 * y := by omega
        have e3 : decide (rate * 4294967296 - 1000 * y ≤ 4294967296) = true := by simp; omega
        go_wp2_with (go_at_call 17; refine (cum_alive _).mono ?_; rintro e w9 ⟨rfl, hb9⟩)
        go_ret
        exact ⟨rfl, then_ hbd hb9 (Nat.le_refl _)⟩
      · have e1 : max (1000 * y) (rate * 4294967296) = 1000 * y := by omega
        have e2 : min (1000 * y) (rate * 4294967296) = rate * 4294967296 := by omega
        have e3 : decide (1000 * y - rate * 4294967296 ≤ 4294967296) = true := by simp; omega
        go_wp2_with (go_at_call 17; refine (cum_alive _).mono ?_; rintro e w9 ⟨rfl, hb9⟩)
        go_ret
        exact ⟨rfl, then_ hbd hb9 (Nat.le_refl _)⟩

set_option maxRecDepth 100000 in
theorem cumulFair_lifted (os : Os) (started : os.Started) (H : Type) (enc : TypeId × Value → H) :
    ReturnsInHanded {} Try.checked os 5 .any (Rows.cumulFairSpec.pre6 enc Try.prog Try.f5 [] false) (Rows.cumulFairSpec.post enc Try.prog Try.f5 false true false false) := by
  refine law_lifted (C := Try.checked) Try.own started (by kernel_rfl) Try.func5
    (ChangeSpec.witness6 (enc := enc) (C := Try.checked) false ⟨#[], #[.int .i64 0], []⟩ 8 (by kernel_rfl) (by kernel_rfl) (by kernel_rfl) (by kernel_rfl))
    Try.laidOut (show ∀ t ∈ [3], Try.prog.readableRec t = true ∧ t < Try.prog.types.size from by
      intro t ht; simp only [List.mem_cons, List.not_mem_nil, or_false] at ht; subst ht <;> exact ⟨by kernel_rfl, of_decide_eq_true (by kernel_rfl)⟩) (tb := 4) (by kernel_rfl) Try.underlying4 rfl (fun ds hd => ?_) ?_
  · match ds, hd with
    | [_], _ => rfl
  · intro W base args ds p hval hA
    have hval' : ∀ (j : Nat) t v, Try.f5.params[j]? = some t → args[j]? = some v → Value.okWide Try.prog W .any base t v := hval
    rw [Try.params5] at hA hval'
    obtain ⟨v0, d0, rfl, rfl, h0⟩ := trodAll_one hA
    obtain ⟨a0, rfl, w0⟩ := arg_int Try.underlying3 (hval' 0 _ _ rfl rfl) h0
    exact cumulFair_walk a0 W

theorem cumulFair_holds : Rows.CumulFairSaid :=
  OpenClaim.holds_of_wide 5 Try.f5 rfl rfl rfl rfl rfl rfl rfl ⟨rfl, rfl, rfl, rfl, rfl⟩ rfl rfl rfl rfl rfl (by kernel_rfl) Try.func5 (by kernel_rfl)
    (of_decide_eq_true (by kernel_rfl)) (by unfold Func.isWrapper; first | (rw [if_pos (by decide +kernel)]; kernel_rfl) | (rw [if_neg (by decide +kernel)]; exact ⟨rfl, rfl⟩))
    (fun os started H enc _ => cumulFair_lifted os started H enc)
#print axioms cumulFair_holds
end Go.Proofs.Ytkgkilogjodccaa
