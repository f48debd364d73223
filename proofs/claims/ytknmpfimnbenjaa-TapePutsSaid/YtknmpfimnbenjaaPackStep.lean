/-
  The walk of the law's own step: a thing more, read by both readers.
-/
import Derived.Test.YtknmpfimnbenjaaRefR
import Derived.Test.YtknmpfimnbenjaaPackAlive
namespace Go.Proofs.Ytknmpfimnbenjaa
open Go.RowKit HB PackP
set_option linter.unusedVariables false
set_option linter.unusedSimpArgs false
def StepPost (p q B D : Nat) (l : List Int) (w : World) (e : Ending) (w' : World) : Prop :=
  e = .returned (.bool true) ∧ (∃ l' bad', Rr w' p B l' bad' ∧ Rr w' q B l' bad' ∧ (∀ x ∈ l', x ∈ l) ∧ l'.length ≤ l.length) ∧ Below D w w'
theorem sub_len {l r : List Int} (h : ∀ x ∈ r, x ∈ l) (hb : ∀ x ∈ l, 0 ≤ x ∧ x < 256) : ∀ x ∈ r, 0 ≤ x ∧ x < 256 := fun x hx => hb x (h x hx)
theorem tr_sub {l : List Int} {x : Int} (h : x ∈ tr l) : x ∈ l := by
  unfold tr at h
  split at h
  · simp at h
  · exact nr_sub (List.mem_of_mem_drop h)
theorem tr_len (l : List Int) : (tr l).length ≤ l.length := by
  unfold tr
  have := nr_len l
  split
  · simp
  · rw [List.length_drop]; omega
theorem sr_sub {l : List Int} {m : Int} {x : Int} (h : x ∈ sr l m) : x ∈ l := by
  unfold sr at h
  split at h
  · simp at h
  · exact nr_sub h
theorem sr_len (l : List Int) (m : Int) : (sr l m).length ≤ l.length := by
  unfold sr
  have := nr_len l
  split
  · simp
  · exact this
theorem two_grown {w w1 w2 : World} {p q D : Nat} (h1 : w.grownBy w1 (some p)) (h2 : w1.grownBy w2 (some q)) (hp : D ≤ p) (hq : D ≤ q) (hs : D ≤ w.heap.size) : Below D w w2 :=
  ((Below.refl D w).grown h1 hs (fun k hk => by injection hk with hk; omega)).grown h2 (Nat.le_trans hs h1.size) (fun k hk => by injection hk with hk; omega)
set_option maxRecDepth 100000 in
set_option maxHeartbeats 8000000 in
theorem pack_step (p q B D : Nat) (l : List Int) (bad : Bool) (kind most : Int) (w : World) (hp : Rr w p B l bad) (hq : Rr w q B l bad) (hpq : p ≠ q) (hDp : D ≤ p) (hDq : D ≤ q) (hb : ∀ x ∈ l, 0 ≤ x ∧ x < 256) (hn : l.length ≤ 1000000) (hk : 0 ≤ kind) (hm0 : -9223372036854775808 ≤ most) (hm1 : most ≤ 9223372036854775807) :
    Calls Try.prog 29 #[.pointer (some ⟨p, 0, none⟩), .pointer (some ⟨q, 0, none⟩), .int .i64 kind, .int .i64 most] w (StepPost p q B D l w) := by
  have hBp := hp.hB
  have hBq := hq.hB
  have hD : D ≤ w.heap.size := Nat.le_trans hDp (Nat.le_of_lt hp.hp)
  have hvl := nv_lt hb
  rcases (show kind % 4 = 0 ∨ kind % 4 = 1 ∨ kind % 4 = 2 ∨ kind % 4 = 3 by omega) with hr | hr | hr | hr
  · have H1 := hide (reader_num p B l bad w hp hb hn)
    have H2 := hide (fun w1 (h : Rr w1 q B l bad) => refr_num q B l bad w1 h hb hn)
    have HQ := hide hq
    clear hp hq hb
    go_enter Try.func29, Try.ntmps29
    go_wp2_with (first | (go_at_call 50; refine (H1.out).mono ?_; rintro e w1 ⟨rfl, hr1, hg1⟩; have hq1 := HQ.out.kept hg1 (Ne.symm hpq) hBp) | (go_at_call 53; refine (H2.out w1 hq1).mono ?_; rintro e w2 ⟨rfl, hr2, hg2⟩; have hp2 := hr1.kept hg2 hpq hBq))
    go_ret
    exact ⟨rfl, ⟨_, _, hp2, hr2, fun x hx => nr_sub hx, nr_len l⟩, two_grown hg1 hg2 hDp hDq hD⟩
  · have H1 := hide (reader_int p B l bad w hp hb hn)
    have H2 := hide (fun w1 (h : Rr w1 q B l bad) => refr_num q B l bad w1 h hb hn)
    have HU := hide (fun W => ref_unfold (nv l) W hvl)
    have HQ := hide hq
    clear hp hq hb
    go_enter Try.func29, Try.ntmps29
    go_wp2_with (first | (go_at_call 23; refine (H1.out).mono ?_; rintro e w1 ⟨rfl, hr1, hg1⟩; have hq1 := HQ.out.kept hg1 (Ne.symm hpq) hBp) | (go_at_call 53; refine (H2.out w1 hq1).mono ?_; rintro e w2 ⟨rfl, hr2, hg2⟩; have hp2 := hr1.kept hg2 hpq hBq) | (go_at_call 52; refine (HU.out _).mono ?_; rintro e w3 ⟨rfl, rfl⟩))
    go_ret
    exact ⟨rfl, ⟨_, _, hp2, hr2, fun x hx => nr_sub hx, nr_len l⟩, two_grown hg1 hg2 hDp hDq hD⟩
  · have H1 := hide (fun w1 (h : Rr w1 p B l bad) => reader_small p B l bad most w1 h hb hn hm0 hm1)
    have H2 := hide (refr_num q B l bad w hq hb hn)
    have HPP := hide hp
    have hsl := sr_len l most
    have HSL := hide hsl
    clear hp hq hb hsl
    by_cases hc : most < (nv l : Int)
    · have e1 : sv l most = 0 := by unfold sv; rw [if_pos hc]
      have e2 : sr l most = [] := by unfold sr; rw [if_pos hc]
      have e3 : sb l most bad = true := by unfold sb; rw [if_pos hc]
      simp only [e1, e2, e3] at H1
      generalize nv l = v at *
      clear e1 e2 e3
      by_cases h0 : most < 0
      · go_enter Try.func29, Try.ntmps29
        go_wp2_with (first | (go_at_call 53; refine (H2.out).mono ?_; rintro e w1 ⟨rfl, hr1, hg1⟩; have hp1 := HPP.out.kept hg1 hpq hBq; have f0 := hr1.f0; have f1 := hr1.f1; have c1 := hr1.c1; obtain ⟨A, n, c, hc1, hc2, hc3, c0⟩ := hr1.c0; have hf := hide hr1.fails) | (go_at_call 54; refine (H1.out _ (hp1.kept hf.out.2 hpq hBq)).mono ?_; rintro e w2 ⟨rfl, hr2, hg2⟩))
        go_ret
        exact ⟨rfl, ⟨[], true, hr2, hf.out.1.kept hg2 (Ne.symm hpq) hBp, by simp, by simp⟩, two_grown (hg1.trans hf.out.2) hg2 hDq hDp hD⟩
      · have ew : IntKind.u64.wrap most = most := by rw [IntKind.wrap_u64]; omega
        go_enter Try.func29, Try.ntmps29
        go_wp2_with (first | (go_at_call 53; refine (H2.out).mono ?_; rintro e w1 ⟨rfl, hr1, hg1⟩; have hp1 := HPP.out.kept hg1 hpq hBq; have f0 := hr1.f0; have f1 := hr1.f1; have c1 := hr1.c1; obtain ⟨A, n, c, hc1, hc2, hc3, c0⟩ := hr1.c0; have hf := hide hr1.fails) | (go_at_call 54; refine (H1.out _ (hp1.kept hf.out.2 hpq hBq)).mono ?_; rintro e w2 ⟨rfl, hr2, hg2⟩))
        go_ret
        exact ⟨rfl, ⟨[], true, hr2, hf.out.1.kept hg2 (Ne.symm hpq) hBp, by simp, by simp⟩, two_grown (hg1.trans hf.out.2) hg2 hDq hDp hD⟩
    · have e1 : sv l most = nv l := by unfold sv; rw [if_neg hc]
      have e2 : sr l most = nr l := by unfold sr; rw [if_neg hc]
      have e3 : sb l most bad = nb l bad := by unfold sb; rw [if_neg hc]
      simp only [e1, e2, e3] at H1
      have h0 : ¬ most < 0 := by omega
      have ew : IntKind.u64.wrap most = most := by rw [IntKind.wrap_u64]; omega
      have ev : IntKind.i64.wrap (nv l : Int) = (nv l : Int) := by rw [IntKind.wrap_i64]; omega
      have HSUB := hide (show (∀ x ∈ nr l, x ∈ l) ∧ (nr l).length ≤ l.length from ⟨fun x hx => nr_sub hx, nr_len l⟩)
      generalize nv l = v at *
      generalize nr l = r at *
      generalize nb l bad = b2 at *
      clear e1 e2 e3
      go_enter Try.func29, Try.ntmps29
      go_wp2_with (first | (go_at_call 53; refine (H2.out).mono ?_; rintro e w1 ⟨rfl, hr1, hg1⟩; have hp1 := HPP.out.kept hg1 hpq hBq) | (go_at_call 54; refine (H1.out _ hp1).mono ?_; rintro e w2 ⟨rfl, hr2, hg2⟩))
      go_ret
      exact ⟨rfl, ⟨_, _, hr2, hr1.kept hg2 (Ne.symm hpq) hBp, HSUB.out.1, HSUB.out.2⟩, two_grown hg1 hg2 hDq hDp hD⟩
  · have H1 := hide (reader_text p B l bad w hp hb hn)
    have H2 := hide (fun w1 (h : Rr w1 q B l bad) => refr_text q B l bad w1 h hb hn)
    have HQ := hide hq
    clear hp hq hb
    go_enter Try.func29, Try.ntmps29
    go_wp2_with (first | (go_at_call 24; refine (H1.out).mono ?_; rintro e w1 ⟨rfl, hr1, hg1⟩; have hq1 := HQ.out.kept hg1 (Ne.symm hpq) hBp) | (go_at_call 55; refine (H2.out w1 hq1).mono ?_; rintro e w2 ⟨rfl, hr2, hg2⟩; have hp2 := hr1.kept hg2 hpq hBq))
    go_ret
    exact ⟨rfl, ⟨_, _, hp2, hr2, fun x hx => tr_sub hx, tr_len l⟩, two_grown hg1 hg2 hDp hDq hD⟩
end Go.Proofs.Ytknmpfimnbenjaa
