/-
  The walks of package pack's reader: Make, Left, Bad, Int, Small, Text, Read.
-/
import Derived.Test.YtknmpfimnbenjaaReader
namespace Go.Proofs.Ytknmpfimnbenjaa
open Go.RowKit HB PackP
set_option linter.unusedVariables false
set_option linter.unusedSimpArgs false
namespace PackP
def tv (l : List Int) : ByteArray := if (nr l).length < nv l then ⟨#[]⟩ else strOfNums ((nr l).take (nv l))
def tr (l : List Int) : List Int := if (nr l).length < nv l then [] else (nr l).drop (nv l)
def tb (l : List Int) (bad : Bool) : Bool := if (nr l).length < nv l then true else nb l bad
theorem nr_len (l : List Int) : (nr l).length ≤ l.length := by
  unfold nr
  split
  · rw [List.length_drop]; omega
  · simp
theorem nr_sub {l : List Int} {x : Int} (h : x ∈ nr l) : x ∈ l := by
  unfold nr at h
  split at h
  · exact List.mem_of_mem_drop h
  · simp at h
theorem nv_lt {l : List Int} (hb : ∀ x ∈ l, 0 ≤ x ∧ x < 256) : nv l < 18446744073709551616 := by
  unfold nv
  split
  · rename_i v k h; exact (num_is hb h).1
  · omega
/-- what Small says -/
def sv (l : List Int) (m : Int) : Nat := if m < (nv l : Int) then 0 else nv l
def sr (l : List Int) (m : Int) : List Int := if m < (nv l : Int) then [] else nr l
def sb (l : List Int) (m : Int) (bad : Bool) : Bool := if m < (nv l : Int) then true else nb l bad
end PackP
theorem HB.Rd.take' {w : World} {B n v : Nat} {A : Option Addr} {r : List Int} (h : Rd w B 1 A n (r.map (Value.int .u8))) (hl : r.length = n) (hv : v ≤ n) : Rd w B 1 A v ((r.take v).map (Value.int .u8)) := by
  have := h.front hv
  rw [Nat.mul_one, ← List.map_take] at this
  exact this
set_option maxRecDepth 100000 in
theorem conv_bytes {B : Nat} (A : Option Addr) (n c : Nat) (xs : List Int) (w : World) (h : Rd w B 1 A n (xs.map (Value.int .u8))) : (convert 22 9 (.slice A n c)).run Try.prog w = .ok (.string (strOfNums xs)) w := by
  have hl : xs.length = n := by have := h.1; simpa using this
  cases A with
  | none =>
    have h0 : n = 0 := by
      rcases Nat.eq_zero_or_pos n with h1 | h1
      · exact h1
      · obtain ⟨b, off, hA, _⟩ := h.2 h1
        cases hA
    subst h0
    have h1 : xs = [] := List.eq_nil_of_length_eq_zero hl
    subst h1
    exact run_convert_bytes_nil w _ _ Try.underlying22 Try.underlying5 0 c _ Try.underlying9
  | some a =>
    rcases Nat.eq_zero_or_pos n with h0 | h0
    · subst h0
      have h1 : xs = [] := List.eq_nil_of_length_eq_zero hl
      subst h1
      rw [run_convert_bytes_string w _ _ _ _ 0 c Try.underlying22 Try.underlying5 Try.underlying9, run_bytesToString w a 0 c [] (run_loadCells_list w a [] (by simp))]
      rfl
    · obtain ⟨b, off, hA, _, hc⟩ := h.2 h0
      injection hA with hA
      subst hA
      refine run_convert_bytes_arg w _ _ Try.underlying22 Try.underlying5 b off n c xs hl (fun i hi => ?_) _ Try.underlying9
      refine hc i _ ?_
      rw [List.getElem?_map, List.getElem?_eq_getElem (by omega)]
      simp [List.getD, List.getElem?_eq_getElem (show i < xs.length by omega)]
theorem reader_left (p B : Nat) (l : List Int) (bad : Bool) (w : World) (h : Rr w p B l bad) :
    Calls Try.prog 25 #[.pointer (some ⟨p, 0, none⟩)] w fun e w' => e = .returned (.int .i64 l.length) ∧ w = w' := by
  obtain ⟨A, n, c, hc, hl, hr, c0⟩ := h.c0
  rw [hl]
  clear h hr
  go_enter Try.func25, Try.ntmps25
  go_wp2_with fail
  go_ret
  exact ⟨rfl, rfl⟩
theorem reader_bad (p B : Nat) (l : List Int) (bad : Bool) (w : World) (h : Rr w p B l bad) :
    Calls Try.prog 26 #[.pointer (some ⟨p, 0, none⟩)] w fun e w' => e = .returned (.bool bad) ∧ w = w' := by
  have c1 := h.c1
  clear h
  go_enter Try.func26, Try.ntmps26
  go_wp2_with fail
  go_ret
  exact ⟨rfl, rfl⟩
theorem Rr.new {w : World} {B n c : Nat} {A : Option Addr} {l : List Int} (ty : TypeId) (hc : n ≤ c) (hl : l.length = n) (hr : Rd w B 1 A n (l.map (Value.int .u8))) (hB : B ≤ w.heap.size) : Rr (w.alloc (.cells #[.slice A n c, .bool false] ty)) w.heap.size B l false := by
  refine ⟨by simp, hB, ?_, ?_, ?_, A, n, c, hc, hl, hr.alloc hB _, ?_⟩
  · exact World.frozen?_alloc_at _ _ _ _ rfl
  · exact World.frozen?_alloc_at _ _ _ _ rfl
  · rw [cell_of_row _ w.heap.size 1 _ ty (0, 0) (heap_alloc_new w _)]; rfl
  · rw [cell_of_row _ w.heap.size 0 _ ty (0, 0) (heap_alloc_new w _)]; rfl
theorem reader_make (A : Option Addr) (n c B : Nat) (l : List Int) (w : World) (hc : n ≤ c) (hl : l.length = n) (hr : Rd w B 1 A n (l.map (Value.int .u8))) (hB : B ≤ w.heap.size) :
    Calls Try.prog 22 #[.slice A n c] w fun e w' => e = .returned (.pointer (some ⟨w.heap.size, 0, none⟩)) ∧ Rr w' w.heap.size B l false ∧ Below w.heap.size w w' := by
  have HN := hide (Rr.new (w := w) 94 hc hl hr hB)
  clear hr
  go_enter Try.func22, Try.ntmps22
  go_wp2_with fail
  go_ret
  exact ⟨rfl, HN.out, by go_grown⟩
theorem reader_int (p B : Nat) (l : List Int) (bad : Bool) (w : World) (h : Rr w p B l bad) (hb : ∀ x ∈ l, 0 ≤ x ∧ x < 256) (hn : l.length ≤ 1000000) :
    Calls Try.prog 23 #[.pointer (some ⟨p, 0, none⟩)] w fun e w' => e = .returned (.int .i64 (unfold (nv l))) ∧ Rr w' p B (nr l) (nb l bad) ∧ w.grownBy w' (some p) := by
  have HN := hide (reader_num p B l bad w h hb hn)
  have HU := hide (fun W => pack_unfold (nv l) W (nv_lt hb))
  clear h hb
  go_enter Try.func23, Try.ntmps23
  go_wp2_with (first | (go_at_call 50; refine (HN.out).mono ?_; rintro e w1 ⟨rfl, hr1, hg1⟩) | (go_at_call 19; refine (HU.out _).mono ?_; rintro e w1 ⟨rfl, rfl⟩))
  go_ret
  exact ⟨rfl, hr1, hg1⟩
theorem reader_small (p B : Nat) (l : List Int) (bad : Bool) (m : Int) (w : World) (h : Rr w p B l bad) (hb : ∀ x ∈ l, 0 ≤ x ∧ x < 256) (hn : l.length ≤ 1000000) (hm0 : -9223372036854775808 ≤ m) (hm1 : m ≤ 9223372036854775807) :
    Calls Try.prog 54 #[.pointer (some ⟨p, 0, none⟩), .int .i64 m] w fun e w' => e = .returned (.int .i64 (sv l m)) ∧ Rr w' p B (sr l m) (sb l m bad) ∧ w.grownBy w' (some p) := by
  have HN := hide (reader_num p B l bad w h hb hn)
  have hvl := nv_lt hb
  unfold sv sr sb
  generalize nv l = v at *
  generalize nr l = r at *
  generalize nb l bad = b2 at *
  clear h hb
  by_cases hc : m < (v : Int)
  · rw [if_pos hc, if_pos hc, if_pos hc]
    by_cases h0 : m < 0
    · go_enter Try.func54, Try.ntmps54
      go_wp2_with (first | (go_at_call 50; refine (HN.out).mono ?_; rintro e w1 ⟨rfl, hr1, hg1⟩; have HF := hide (reader_fail p B r b2 w1 hr1)) | (go_at_call 51; refine (HF.out).mono ?_; rintro e w2 ⟨rfl, hr2, hg2⟩))
      go_ret
      exact ⟨rfl, hr2, hg1.trans hg2⟩
    · have ew : IntKind.u64.wrap m = m := by rw [IntKind.wrap_u64]; omega
      go_enter Try.func54, Try.ntmps54
      go_wp2_with (first | (go_at_call 50; refine (HN.out).mono ?_; rintro e w1 ⟨rfl, hr1, hg1⟩; have HF := hide (reader_fail p B r b2 w1 hr1)) | (go_at_call 51; refine (HF.out).mono ?_; rintro e w2 ⟨rfl, hr2, hg2⟩))
      go_ret
      exact ⟨rfl, hr2, hg1.trans hg2⟩
  · rw [if_neg hc, if_neg hc, if_neg hc]
    have h0 : ¬ m < 0 := by omega
    have ew : IntKind.u64.wrap m = m := by rw [IntKind.wrap_u64]; omega
    have ev : IntKind.i64.wrap (v : Int) = (v : Int) := by rw [IntKind.wrap_i64]; omega
    go_enter Try.func54, Try.ntmps54
    go_wp2_with (go_at_call 50; refine (HN.out).mono ?_; rintro e w1 ⟨rfl, hr1, hg1⟩)
    go_ret
    exact ⟨rfl, hr1, hg1⟩

set_option maxRecDepth 100000 in
set_option maxHeartbeats 4000000 in
theorem reader_text (p B : Nat) (l : List Int) (bad : Bool) (w : World) (h : Rr w p B l bad) (hb : ∀ x ∈ l, 0 ≤ x ∧ x < 256) (hn : l.length ≤ 1000000) :
    Calls Try.prog 24 #[.pointer (some ⟨p, 0, none⟩)] w fun e w' => e = .returned (.string (tv l)) ∧ Rr w' p B (tr l) (tb l bad) ∧ w.grownBy w' (some p) := by
  have HN := hide (reader_num p B l bad w h hb hn)
  have hln : (nr l).length ≤ l.length := nr_len l
  obtain ⟨r, hr⟩ : ∃ r, r = nr l := ⟨_, rfl⟩
  obtain ⟨v, hv⟩ : ∃ v, v = nv l := ⟨_, rfl⟩
  obtain ⟨b2, hb2⟩ : ∃ b2, b2 = nb l bad := ⟨_, rfl⟩
  have ht1 : tv l = if r.length < v then ⟨#[]⟩ else strOfNums (r.take v) := by rw [hr, hv]; rfl
  have ht2 : tr l = if r.length < v then [] else r.drop v := by rw [hr, hv]; rfl
  have ht3 : tb l bad = if r.length < v then true else b2 := by rw [hr, hv, hb2]; rfl
  rw [← hr, ← hv, ← hb2] at HN
  rw [← hr] at hln
  have hvl : v < 18446744073709551616 := by rw [hv]; exact nv_lt hb
  rw [ht1, ht2, ht3]
  clear h hr hv hb2 ht1 ht2 ht3 hb
  by_cases hc : r.length < v
  · rw [if_pos hc, if_pos hc, if_pos hc]
    go_enter Try.func24, Try.ntmps24
    go_wp2_with (first | (go_at_call 50; go_loud (refine (HN.out).mono ?_; rintro e w1 ⟨rfl, hr1, hg1⟩; obtain ⟨A, n, c, hnc, hrl, hrd, c0⟩ := hr1.c0; have HF := hide (reader_fail p B r b2 w1 hr1); have hvn : (n : Int) < v := (by omega); have hnn : n ≤ 1000000 := (by omega))) | (go_at_call 51; refine (HF.out).mono ?_; rintro e w2 ⟨rfl, hr2, hg2⟩))
    go_ret
    exact ⟨rfl, hr2, hg1.trans hg2⟩
  · rw [if_neg hc, if_neg hc, if_neg hc]
    go_enter Try.func24, Try.ntmps24
    go_wp2_with (go_at_call 50; go_loud (refine (HN.out).mono ?_; rintro e w1 ⟨rfl, hr1, hg1⟩; obtain ⟨A, n, c, hnc, hrl, hrd, c0⟩ := hr1.c0; have f0 := hr1.f0; have hvn : v ≤ n := (by omega); have hnn : n ≤ 1000000 := (by omega); have hcv := conv_bytes A v c (r.take v) w1 (hrd.take' hrl hvn); have hset := hide (hr1.set (if c = v then A else A.map (·.add v)) (n - v) (c - v) (r.drop v) (by omega) (by rw [List.length_drop, hrl]) (by have h9 := hrd.cut hvn hnc; rw [Nat.mul_one, ← List.map_drop] at h9; exact h9))))
    all_goals
      go_ret
      have hs := hset.out
      refine ⟨rfl, ?_⟩
      by_cases hcc : c = v
      · rw [if_pos hcc] at hs
        first
          | exact ⟨hs.1, hg1.trans hs.2⟩
          | (rw [show c - v = 0 by omega] at hs; exact ⟨hs.1, hg1.trans hs.2⟩)
          | (exfalso; omega)
      · rw [if_neg hcc] at hs
        first
          | exact ⟨hs.1, hg1.trans hs.2⟩
          | (exfalso; omega)
end Go.Proofs.Ytknmpfimnbenjaa
