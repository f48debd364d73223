/-
  The law's Great.
-/
import Derived.Test.YtknmpfimnbenjaaTapePut
namespace Go.Proofs.Ytknmpfimnbenjaa
open Go.RowKit HB PackP TapeP
set_option linter.unusedVariables false
set_option linter.unusedSimpArgs false
def GreatP (n n' : Nat) (ls : List (List Lg)) (w : World) (e : Ending) (w' : World) : Prop := (∃ b, e = .returned (.bool b) ∧ (b = false → n ≤ 100 ∧ n' ≤ 20 ∧ ∀ l ∈ ls, l.length ≤ 100)) ∧ Below w.heap.size w w'
set_option maxRecDepth 100000 in
set_option maxHeartbeats 2000000 in
theorem law_great (A A' : Option Addr) (n c n' c' B : Nat) (u : Int) (ls : List (List Lg)) (w : World) (hL : Lgs w B A' n' ls) (hB : B ≤ w.heap.size) :
    Calls Try.prog 30 #[.agg #[.slice A n c, .slice A' n' c', .int .i64 u]] w (GreatP n n' ls w) := by
  have HL := hide hL
  clear hL
  by_cases h1 : 100 < n
  · go_enter Try.func30, Try.ntmps30
    go_wp2_with fail
    go_ret
    exact ⟨⟨true, rfl, fun h => by cases h⟩, by go_grown⟩
  · by_cases h2 : 20 < n'
    · go_enter Try.func30, Try.ntmps30
      go_wp2_with fail
      go_ret
      exact ⟨⟨true, rfl, fun h => by cases h⟩, by go_grown⟩
    · have HX := hide (Lc.new w (.slice A n c) (.slice A' n' c') (.int .i64 u) 57)
      go_enter Try.func30, Try.ntmps30
      go_wp2_with fail
      go_loopw [3] (fun i wr => ∃ k : Nat, k ≤ n' ∧ i = .int .i64 k ∧ Below w.heap.size w wr ∧ w.heap.size < wr.heap.size ∧ Lc wr w.heap.size (.slice A n c) (.slice A' n' c') (.int .i64 u) ∧ ∀ l ∈ ls.take k, l.length ≤ 100) (fun i _ => n' - (intOf i).toNat)
      case atStart => exact ⟨0, Nat.zero_le _, rfl, by go_grown, by simp, HX.out, fun l hl => by simp at hl⟩
      case round =>
        obtain ⟨k, hk, rfl, hb0, hz0, hl0, hall⟩ := hrel
        have HB0 := hide hb0
        have HL0 := hide hl0
        have HALL := hide hall
        obtain ⟨e0, e1, e2⟩ := hl0
        clear hall HX
        by_cases hlt : k < n'
        · obtain ⟨b, off, A2, n2, c2, l, hA, hb, hg, c0, hrd, hll, -⟩ := (HL.out.below (hb0.mono hB)).at_ hlt
          have HG := hide hg
          have HLL := hide hll
          subst hA
          have i0 : (0 : Int) ≤ (k : Int) := by omega
          have i1 : (k : Int) < (n' : Int) := by omega
          clear hg hrd hll hb0
          by_cases h3 : 100 < n2
          · go_wp2_with fail
            go_ret
            exact ⟨⟨true, rfl, fun h => by cases h⟩, HB0.out⟩
          · go_wp2_with fail
            go_roundw
            case rel =>
              refine ⟨k + 1, by omega, by go_num, HB0.out, hz0, HL0.out, fun x hx => ?_⟩
              rw [List.take_add_one, HG.out] at hx
              rcases List.mem_append.1 hx with hx | hx
              · exact HALL.out x hx
              · obtain rfl : x = l := by simpa using hx
                rw [HLL.out]; omega
            case measure => simp [intOf]; omega
        · obtain rfl : k = n' := by omega
          have he : ls.take k = ls := List.take_of_length_le (by rw [HL.out.len]; exact Nat.le_refl _)
          have HE := hide he
          clear he
          go_wp2_with fail
          go_ret
          refine ⟨⟨false, rfl, fun _ => ⟨by omega, by omega, ?_⟩⟩, HB0.out⟩
          have := HALL.out; rw [HE.out] at this; exact this
end Go.Proofs.Ytknmpfimnbenjaa
