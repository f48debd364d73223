/-
  The walks of the document's reader: fail, Num, Text; and of its Unfold.
-/
import Derived.Test.YtknmpfimnbenjaaRefNum
namespace Go.Proofs.Ytknmpfimnbenjaa
open Go.RowKit HB PackP
set_option linter.unusedVariables false
set_option linter.unusedSimpArgs false
theorem below_grown {w w' : World} (h : Below w.heap.size w w') (row : Option Nat) : w.grownBy w' row := ⟨h.os, h.tape, h.output, h.size, fun k hk _ => h.block k hk⟩
theorem refr_fail (p B : Nat) (l : List Int) (bad : Bool) (w : World) (h : Rr w p B l bad) :
    Calls Try.prog 74 #[.pointer (some ⟨p, 0, none⟩)] w fun e w' => e = .returned (.int .u64 0) ∧ Rr w' p B [] true ∧ w.grownBy w' (some p) := by
  have HF := hide h.fails
  have f0 := h.f0
  have f1 := h.f1
  have c1 := h.c1
  obtain ⟨A, n, c, _, _, _, c0⟩ := h.c0
  clear h
  go_enter Try.func74, Try.ntmps74
  go_wp2_with fail
  go_ret
  exact ⟨rfl, HF.out.1, HF.out.2⟩
theorem cnt_split (l : List Int) (bad : Bool) (hb : ∀ x ∈ l, 0 ≤ x ∧ x < 256) : (cnt l = 0 ∧ nv l = 0 ∧ nr l = [] ∧ nb l bad = true) ∨ (0 < cnt l ∧ cnt l ≤ l.length ∧ nr l = l.drop (cnt l) ∧ nb l bad = bad) := by
  cases hn : num l with
  | none => left; simp [cnt, nv, nr, nb, hn]
  | some q =>
    obtain ⟨v, k⟩ := q
    obtain ⟨h1, h2, t, h3⟩ := num_is hb hn
    have := put_pos v
    right
    have hl : l.length = (put v).length + t.length := by rw [h3, List.length_append]
    refine ⟨?_, ?_, ?_, ?_⟩
    · simp [cnt, hn]; omega
    · simp [cnt, hn]; omega
    · simp [cnt, nr, hn]
    · simp [nb, hn]
set_option maxRecDepth 100000 in
set_option maxHeartbeats 4000000 in
theorem refr_num (p B : Nat) (l : List Int) (bad : Bool) (w : World) (h : Rr w p B l bad) (hb : ∀ x ∈ l, 0 ≤ x ∧ x < 256) (hn : l.length ≤ 1000000) :
    Calls Try.prog 53 #[.pointer (some ⟨p, 0, none⟩)] w fun e w' => e = .returned (.int .u64 (nv l)) ∧ Rr w' p B (nr l) (nb l bad) ∧ w.grownBy w' (some p) := by
  have f0 := h.f0
  obtain ⟨A, n, c, hc, hl, hr, c0⟩ := h.c0
  have HN := hide (ref_num A n c B l w hc hl hr (Nat.le_trans h.hB (Nat.le_of_lt h.hp)) hb (by omega))
  have hsp := cnt_split l bad hb
  have hh := fun (w1 : World) (hb1 : Below w.heap.size w w1) => h.below hb1 h.hp
  have HH := hide hh
  have Hl := hide hl
  have hn2 : n ≤ 1000000 := by omega
  rw [hl] at hsp
  rcases hsp with ⟨h1, h2, h3, h4⟩ | ⟨h1, h2, h3, h4⟩
  · rw [h1, h2] at HN
    rw [h2, h3, h4]
    clear hr h hl hn hb hh h1 h2 h3 h4
    go_enter Try.func53, Try.ntmps53
    go_wp2_with (first | (go_at_call 28; refine (HN.out).mono ?_; rintro e w1 ⟨rfl, hb1⟩; have HF := hide (refr_fail p B l bad w1 (HH.out w1 hb1))) | (go_at_call 74; refine (HF.out).mono ?_; rintro e w2 ⟨rfl, hr2, hg2⟩))
    go_ret
    exact ⟨rfl, hr2, (below_grown hb1 _).trans hg2⟩
  · rw [h3, h4]
    have hcut := hr.cut (k := cnt l) (cap := c) h2 hc
    rw [Nat.mul_one, ← List.map_drop] at hcut
    have hset := fun (w1 : World) (hb1 : Below w.heap.size w w1) => (hh w1 hb1).set (if c = cnt l then A else A.map (·.add (cnt l))) (n - cnt l) (c - cnt l) (l.drop (cnt l)) (by omega) (by rw [List.length_drop, hl]) (hcut.below (hb1.mono (Nat.le_trans h.hB (Nat.le_of_lt h.hp))))
    have hp := h.hp
    have hf := fun (w1 : World) (hb1 : Below w.heap.size w w1) => (hb1.frozen (p := ⟨p, 0, none⟩) hp).trans f0
    have hcc := fun (w1 : World) (hb1 : Below w.heap.size w w1) => (hb1.cell (p := ⟨p, 0, none⟩) hp).trans c0
    have HS := hide hset
    have HF2 := hide hf
    have HCC := hide hcc
    generalize cnt l = q at *
    have hq0 : ((q : Int) == 0) = false := by simp; omega
    clear hr h hl hn hb hh hcut h3 h4 hset hf hcc
    go_enter Try.func53, Try.ntmps53
    go_wp2_with (go_at_call 28; refine (HN.out).mono ?_; rintro e w1 ⟨rfl, hb1⟩; have d0 := HF2.out w1 hb1; have d1 := HCC.out w1 hb1; have hs := hide (HS.out w1 hb1))
    all_goals
      go_ret
      have hs := hs.out
      by_cases hcc : c = q
      · rw [if_pos hcc] at hs
        first
          | exact ⟨rfl, hs.1, (below_grown hb1 _).trans hs.2⟩
          | (rw [show c - q = 0 by omega] at hs; exact ⟨rfl, hs.1, (below_grown hb1 _).trans hs.2⟩)
          | (exfalso; omega)
      · rw [if_neg hcc] at hs
        first
          | exact ⟨rfl, hs.1, (below_grown hb1 _).trans hs.2⟩
          | (exfalso; omega)
theorem ref_unfold (u : Nat) (w : World) (h : u < 18446744073709551616) :
    Calls Try.prog 52 #[.int .u64 u] w fun e w' => e = .returned (.int .i64 (unfold u)) ∧ w = w' := by
  obtain ⟨q, hq⟩ : ∃ q : Nat, q = u / 2 := ⟨_, rfl⟩
  have e2 : (u : Int) / 2 = (q : Int) := by omega
  have e3 : IntKind.i64.wrap (q : Int) = (q : Int) := by rw [IntKind.wrap_i64]; omega
  have e4 : IntKind.i64.wrap (-(q : Int)) = -(q : Int) := by rw [IntKind.wrap_i64]; omega
  have e5 : IntKind.i64.wrap (-(q : Int) - 1) = -(q : Int) - 1 := by rw [IntKind.wrap_i64]; omega
  by_cases hp : u % 2 = 0
  · have e1 : (u : Int) % 2 = 0 := by omega
    have hu : (unfold u : Int) = q := by unfold unfold; rw [if_pos hp, hq]
    rw [hu]
    clear hq hu hp
    go_enter Try.func52, Try.ntmps52
    go_wp2_with fail
    go_ret
    exact ⟨rfl, rfl⟩
  · have e1 : (u : Int) % 2 = 1 := by omega
    have hu : (unfold u : Int) = -(q : Int) - 1 := by unfold unfold; rw [if_neg hp, hq]
    rw [hu]
    clear hq hu hp
    go_enter Try.func52, Try.ntmps52
    go_wp2_with fail
    go_ret
    exact ⟨rfl, rfl⟩

set_option maxRecDepth 100000 in
set_option maxHeartbeats 4000000 in
theorem refr_text (p B : Nat) (l : List Int) (bad : Bool) (w : World) (h : Rr w p B l bad) (hb : ∀ x ∈ l, 0 ≤ x ∧ x < 256) (hn : l.length ≤ 1000000) :
    Calls Try.prog 55 #[.pointer (some ⟨p, 0, none⟩)] w fun e w' => e = .returned (.string (tv l)) ∧ Rr w' p B (tr l) (tb l bad) ∧ w.grownBy w' (some p) := by
  have HN := hide (refr_num p B l bad w h hb hn)
  have hln : (nr l).length ≤ l.length := nr_len l
  obtain ⟨r, hr⟩ : ∃ r, r = nr l := ⟨_, rfl⟩
  obtain ⟨v, hv⟩ : ∃ v, v = nv l := ⟨_, rfl⟩
  obtain ⟨b2, hb2⟩ : ∃ b2, b2 = nb l bad := ⟨_, rfl⟩
  have ht1 : tv l = if r.length < v then ⟨#[]⟩ else strOfNums (r.take v) := by rw [hr, hv]; rfl
  have ht2 : tr l = if r.length < v then [] else r.drop v := by rw [hr, hv]; rfl
  have ht3 : tb l bad = if r.length < v then true else b2 := by rw [hr, hv, hb2]; rfl
  rw [← hr, ← hv, ← hb2] at HN
  rw [← hr] at hln
  have hvl : v < 18446744073709551616 := by rw [hv]; exact nv_lt hb
  rw [ht1, ht2, ht3]
  clear h hr hv hb2 ht1 ht2 ht3 hb
  by_cases hc : r.length < v
  · rw [if_pos hc, if_pos hc, if_pos hc]
    go_enter Try.func55, Try.ntmps55
    go_wp2_with (first | (go_at_call 53; go_loud (refine (HN.out).mono ?_; rintro e w1 ⟨rfl, hr1, hg1⟩; obtain ⟨A, n, c, hnc, hrl, hrd, c0⟩ := hr1.c0; have HF := hide (refr_fail p B r b2 w1 hr1); have hvn : (n : Int) < v := (by omega); have hnn : n ≤ 1000000 := (by omega))) | (go_at_call 74; refine (HF.out).mono ?_; rintro e w2 ⟨rfl, hr2, hg2⟩))
    go_ret
    exact ⟨rfl, hr2, hg1.trans hg2⟩
  · rw [if_neg hc, if_neg hc, if_neg hc]
    go_enter Try.func55, Try.ntmps55
    go_wp2_with (go_at_call 53; go_loud (refine (HN.out).mono ?_; rintro e w1 ⟨rfl, hr1, hg1⟩; obtain ⟨A, n, c, hnc, hrl, hrd, c0⟩ := hr1.c0; have f0 := hr1.f0; have hvn : v ≤ n := (by omega); have hnn : n ≤ 1000000 := (by omega); have hcv := conv_bytes A v c (r.take v) w1 (hrd.take' hrl hvn); have hset := hide (hr1.set (if c = v then A else A.map (·.add v)) (n - v) (c - v) (r.drop v) (by omega) (by rw [List.length_drop, hrl]) (by have h9 := hrd.cut hvn hnc; rw [Nat.mul_one, ← List.map_drop] at h9; exact h9))))
    all_goals
      go_ret
      have hs := hset.out
      refine ⟨rfl, ?_⟩
      by_cases hcc : c = v
      · rw [if_pos hcc] at hs
        first
          | exact ⟨hs.1, hg1.trans hs.2⟩
          | (rw [show c - v = 0 by omega] at hs; exact ⟨hs.1, hg1.trans hs.2⟩)
          | (exfalso; omega)
      · rw [if_neg hcc] at hs
        first
          | exact ⟨hs.1, hg1.trans hs.2⟩
          | (exfalso; omega)
end Go.Proofs.Ytknmpfimnbenjaa
