/-
  slices.Index and slices.Contains at integers.
-/
import Derived.Test.YtalecppofemcnaaProg
import Derived.Test.YtalecppofemcnaaBase
namespace Go.Proofs.Ytalecppofemcnaa
open Go.RowKit HB
set_option linter.unusedVariables false
set_option linter.unusedSimpArgs false
def Has.Post (l : List Int) (x : Int) (w : World) (e : Ending) (w' : World) : Prop := ∃ i : Int, e = .returned (.int .i64 i) ∧ ((0 ≤ i ∧ x ∈ l) ∨ (i = -1 ∧ x ∉ l)) ∧ w = w'
set_option maxHeartbeats 1000000 in
theorem index_int (A : Option Addr) (n c B : Nat) (l : List Int) (x : Int) (w : World) (hr : Rd w B 1 A n (l.map (Value.int .i64))) (hl : l.length = n) (hn : n ≤ 1000000000) :
    Calls Try.prog 42 #[.slice A n c, .int .i64 x] w (Has.Post l x w) := by
  have Hl := hide hl
  clear hl
  go_enter Try.func42, Try.ntmps42
  go_wp2_with fail
  go_loop [8] (fun i => ∃ k : Nat, k ≤ n ∧ i = .int .i64 k ∧ x ∉ l.take k) (fun i => n - (intOf i).toNat)
  case atStart => exact ⟨0, Nat.zero_le _, rfl, by simp⟩
  case round =>
    obtain ⟨k, hk, rfl, hno⟩ := hrel
    have HN := hide hno
    clear hno
    by_cases hlt : k < n
    · obtain ⟨b, off, y, rfl, hb, hg, c0⟩ := hr.int_at Hl.out hlt
      have Hg := hide hg
      clear hg hr
      by_cases hxy : x = y
      · subst hxy
        have hb : (x == x) = true := by simp
        have hm := hide (List.mem_of_getElem? Hg.out)
        go_wp2_with fail
        go_ret
        exact ⟨k, rfl, .inl ⟨by omega, hm.out⟩, rfl⟩
      · have hb : (x == y) = false := by rw [beq_eq_false_iff_ne]; exact hxy
        have hne := hide hxy
        clear hxy
        go_wp2_with fail
        go_round
        case rel =>
          refine ⟨k + 1, by omega, by go_num, ?_⟩
          rw [List.take_add_one, Hg.out, List.mem_append]
          intro h
          rcases h with h | h
          · exact HN.out h
          · simp at h; exact hne.out h
        case measure => simp [intOf]; omega
    · have hno : x ∉ l := by have := HN.out; rwa [List.take_of_length_le (by rw [Hl.out]; omega)] at this
      have H := hide hno
      clear hno hr
      go_wp2_with fail
      go_ret
      exact ⟨-1, rfl, .inr ⟨rfl, H.out⟩, rfl⟩
theorem has_int (A : Option Addr) (n c B : Nat) (l : List Int) (x : Int) (w : World) (hr : Rd w B 1 A n (l.map (Value.int .i64))) (hl : l.length = n) (hn : n ≤ 1000000000) :
    Calls Try.prog 19 #[.slice A n c, .int .i64 x] w fun e w' => e = .returned (.bool (decide (x ∈ l))) ∧ w = w' := by
  go_enter Try.func19, Try.ntmps19
  go_wp2_with fail
  refine (index_int A n c B l x _ hr hl hn).mono ?_; rintro e w' ⟨i, rfl, hi, rfl⟩
  rcases hi with ⟨h, h'⟩ | ⟨rfl, h'⟩
  · have hd := hide (show decide (x ∈ l) = true by simpa using h')
    clear h'
    go_wp2_with fail
    go_ret
    exact ⟨ret_bool (by rw [hd.out]), rfl⟩
  · have hd := hide (show decide (x ∈ l) = false by simpa using h')
    clear h'
    go_wp2_with fail
    go_ret
    exact ⟨ret_bool (by rw [hd.out]), rfl⟩
end Go.Proofs.Ytalecppofemcnaa
