/-
  The walk of draw.Span; a rate's table rises.
-/
import Derived.Test.YtikdkljknbgphaaShare
import Derived.Test.YtikdkljknbgphaaTab
import Derived.Test.YtikdkljknbgphaaCumR
namespace Go.Proofs.Ytikdkljknbgphaa
open Go.RowKit HB TabP CumP
set_option linter.unusedVariables false
set_option linter.unusedSimpArgs false

theorem tb_get {rate : Int} {m j i : Nat} {x : Int} (h : (tb rate m j)[i]? = some x) : x = cell rate m i ∧ i < j := by
  have hi : i < j := by have := (List.getElem?_eq_some_iff.1 h).1; rwa [tb_length] at this
  simp [tb, hi] at h
  exact ⟨h.symm, hi⟩
theorem tb_rises {rate : Int} (h0 : 0 ≤ rate) (m : Nat) (hm : 1 ≤ m) : Rises (tb rate m m) := by
  intro i a b ha hb
  obtain ⟨rfl, -⟩ := tb_get ha
  obtain ⟨rfl, -⟩ := tb_get hb
  have p := S_pos h0 hm
  have l := S_le h0 (show i + 1 ≤ i + 1 + 1 by omega)
  exact Int.ediv_le_ediv (by omega) (by omega)
theorem tb_last {rate : Int} (h0 : 0 ≤ rate) (m : Nat) (hm : 1 ≤ m) : (tb rate m m)[m - 1]? = some 4294967296 := by
  have p := S_pos h0 hm
  have : cell rate m (m - 1) = 4294967296 := by
    unfold cell
    rw [show m - 1 + 1 = m by omega, Int.mul_comm]
    exact Int.mul_ediv_cancel _ (by omega)
  simp [tb, show m - 1 < m by omega, this]
theorem first_spot {l : List Int} {w : Int} {k i : Nat} {x : Int} (hr : Rises l) (hf : First l w k) (hx : l[i]? = some x) (hp : i = 0 ∨ ∃ p, l[i - 1]? = some p ∧ p ≤ w) (hwx : w < x) : i = k := by
  have hi := (List.getElem?_eq_some_iff.1 hx).1
  refine First.one (l := l) (x := w) ⟨by omega, fun j a hj ha => ?_, fun _ => ⟨x, hx, hwx⟩⟩ hf
  rcases hp with h | ⟨p, hp, hpw⟩
  · omega
  · exact Int.le_trans (hr.le (show j ≤ i - 1 by omega) ha hp) hpw
theorem first_lt {l : List Int} {w : Int} {k : Nat} {x : Int} (hf : First l w k) (hx : l[k]? = some x) : w < x := by
  obtain ⟨a, ha, h⟩ := hf.2.2 (List.getElem?_eq_some_iff.1 hx).1
  rw [hx] at ha; obtain rfl := Option.some.inj ha; exact h

set_option maxHeartbeats 1000000 in
theorem draw_span_zero (A : Option Addr) (n c B : Nat) (l : List Int) (w : World) (hr : Rd w B 1 A n (l.map (Value.int .u64))) (hl : l.length = n) (hn : n ≤ 1000) (x : Int) (hx : l[0]? = some x) :
    Calls Try.prog 35 #[.slice A n c, .int .i64 0] w fun e w' => e = .returned (.tuple #[.int .u64 0, .int .u64 x]) ∧ w = w' := by
  by_cases h : x = 0
  · subst h
    go_enter Try.func35, Try.ntmps35
    go_wp2_with (go_at_call 57; refine (cum_share_zero A n c B l _ hr hl hn 0 hx).mono ?_; rintro e w' ⟨rfl, rfl⟩)
    go_ret2
    exact ⟨rfl, rfl⟩
  · have hb : (x == 0) = false := by rw [beq_eq_false_iff_ne]; exact h
    have HX := hide hx
    clear h hx
    go_enter Try.func35, Try.ntmps35
    go_wp2_with (go_at_call 57; refine (cum_share_zero A n c B l _ hr hl hn x HX.out).mono ?_; rintro e w' ⟨rfl, rfl⟩)
    go_ret2
    exact ⟨rfl, rfl⟩

set_option maxHeartbeats 1000000 in
theorem draw_span_next (A : Option Addr) (n c B : Nat) (l : List Int) (w : World) (hr : Rd w B 1 A n (l.map (Value.int .u64))) (hl : l.length = n) (hn : n ≤ 1000) (i : Nat) (h1 : 1 ≤ i) (x p : Int) (hx : l[i]? = some x) (hp : l[i - 1]? = some p) (h0 : 0 ≤ p) (hpx : p ≤ x) (hx1 : x ≤ 4294967296) :
    Calls Try.prog 35 #[.slice A n c, .int .i64 i] w fun e w' => e = .returned (.tuple #[.int .u64 (if x = p then 0 else p), .int .u64 (x - p)]) ∧ ∃ m, w' = w.drewN m := by
  have hv : Hid (IntKind.u64.wrap (x - p) = x - p) := hide (by rw [IntKind.wrap_u64]; omega)
  have hlt : i - 1 < n := by have := (List.getElem?_eq_some_iff.1 hp).1; omega
  obtain ⟨b, off, y, rfl, hb, hg, c0⟩ := hr.int_at hl hlt
  rw [hp] at hg
  obtain rfl := Option.some.inj hg
  have HR := hide hr
  have HL := hide hl
  have HX := hide hx
  have HP := hide hp
  have i0 : (0 : Int) ≤ (i : Int) - 1 := by omega
  have i1 : (i : Int) - 1 < (n : Int) := by omega
  have i2 : ((i : Int) - 1).toNat = i - 1 := by omega
  have j2 : ((i : Int) == 0) = false := by rw [beq_eq_false_iff_ne]; omega
  have j3 : (i == 0) = false := by rw [beq_eq_false_iff_ne]; omega
  clear hr hl hx hp hg
  by_cases h : x = p
  · subst h
    go_enter Try.func35, Try.ntmps35
    go_wp2_with (go_at_call 57; refine (cum_share_next _ n c B l _ HR.out HL.out hn i h1 x x (x - x) HX.out HP.out hv.out).mono ?_; rintro e w' ⟨rfl, m, rfl⟩)
    go_ret2
    exact ⟨by simp, m, rfl⟩
  · have hb : ((x - p) == 0) = false := by rw [beq_eq_false_iff_ne]; omega
    rw [if_neg h]
    generalize hd : x - p = d at *
    have HD := hide hd
    clear h hd
    go_enter Try.func35, Try.ntmps35
    go_wp2_with (go_at_call 57; refine (cum_share_next _ n c B l _ HR.out HL.out hn i h1 x p d HX.out HP.out (by rw [HD.out]; exact hv.out)).mono ?_; rintro e w' ⟨rfl, m, rfl⟩)
    go_ret2
    exact ⟨rfl, m, rfl⟩
end Go.Proofs.Ytikdkljknbgphaa
