/-
  The walks of people.Later, of the law's bound and its own example.
-/
import Derived.Test.YtkgkilogjodccaaPeople
import Derived.Test.YtkgkilogjodccaaCopyN
namespace Go.Proofs.Ytkgkilogjodccaa
open Go.RowKit HB PeopleP
set_option linter.unusedVariables false
set_option linter.unusedSimpArgs false
theorem pa_one (l : List Pa) : ∀ u ∈ l.flatMap pa, u.oneCell' = true := by
  intro u hu
  obtain ⟨z, _, hz⟩ := List.mem_flatMap.1 hu
  simp at hz
  rcases hz with rfl | rfl | rfl | rfl <;> rfl
theorem People.make (w : World) (c : Nat) (hc : c ≤ 1000) :
    (Instr.makeSlice 63 (.int .i64 (c : Int)) (.int .i64 (c : Int))).run Try.prog w = .ok (.slice (some ⟨w.heap.size, 0, none⟩) c c) (w.alloc (.cells (madeCells #[.int .i64 0, .int .i64 0, .int .i64 0, .int .i64 0] (c * 4)) 68)) := by
  obtain ⟨i, hi, hz, hs, hb⟩ := info_parts People.info
  have hr := run_make (P := Try.prog) w 63 68 i _ Try.underlying63 hi hz .i64 .i64 c c (by omega) (Int.le_refl _) (by rw [hb]; omega) (by omega)
  simp only [Int.toNat_natCast, hs] at hr
  exact hr
theorem People.own (w : World) (c B : Nat) (hc : c ≤ 1000) (hB : B ≤ w.heap.size) : Own (w.alloc (.cells (madeCells #[.int .i64 0, .int .i64 0, .int .i64 0, .int .i64 0] (c * 4)) 68)) B 68 4 pa (.slice (some ⟨w.heap.size, 0, none⟩) c c) (List.replicate c ⟨0, 0, 0, 0⟩) := by
  have h := Own.block (base := B) (f := pa) (sz := 4) w 68 (madeCells #[.int .i64 0, .int .i64 0, .int .i64 0, .int .i64 0] (c * 4)) (List.replicate c ⟨0, 0, 0, 0⟩) hB (by
    apply List.ext_getElem?
    intro i
    by_cases hi : i < c * 4
    · have h1 : (List.replicate c (⟨0, 0, 0, 0⟩ : Pa))[i / 4]? = some ⟨0, 0, 0, 0⟩ := by
        rw [List.getElem?_replicate, if_pos (by omega)]
      have h2 := flat_get pa_len _ (i / 4) (i % 4) _ h1 (Nat.mod_lt _ (by omega))
      rw [show i / 4 * 4 + i % 4 = i by omega] at h2
      rw [h2]
      have h4 : i % 4 < 4 := Nat.mod_lt _ (by omega)
      have h5 : i % 4 = 0 ∨ i % 4 = 1 ∨ i % 4 = 2 ∨ i % 4 = 3 := by omega
      rcases h5 with h5 | h5 | h5 | h5 <;> simp [madeCells, hi, h5]
    · rw [List.getElem?_eq_none (by simp [madeCells]; omega), List.getElem?_eq_none (by rw [flat_length pa_len]; simp; omega)]) pa_len (by simp; omega)
  simpa using h
set_option maxRecDepth 100000 in
set_option maxHeartbeats 4000000 in
theorem people_later (A : Option Addr) (n c B : Nat) (l : List Pa) (N : Int) (w : World) (hr : Rd w B 4 A n (l.flatMap pa)) (hB : B ≤ w.heap.size) (hl : l.length = n) (hn : n ≤ 100) (hf : ∀ x ∈ l, fine x) (h1 : -1099511627776 ≤ N) (h2 : N ≤ 1099511627776) :
    Calls Try.prog 47 #[.slice A n c, .int .i64 N] w fun e w' => (∃ v, e = .returned v ∧ Own w' w.heap.size 68 4 pa v (all (later N) l)) ∧ Below w.heap.size w w' := by
  have hmk := fun (W : World) => People.make W n (by omega)
  have Hl := hide hl
  have HR := hide hr
  have HF := hide hf
  have HM := hide (People.own w n w.heap.size (by omega) (Nat.le_refl _))
  clear hl hr hf
  go_enter Try.func47, Try.ntmps47
  go_wp2_with (with_reducible refine copyAll (o := ⟨some 12, _, _, _, _, _⟩) rfl _ _ 63 63 rfl Try.underlying63 (sz := 4) (by kernel_rfl) w.heap.size n n c B A (List.replicate n ⟨0, 0, 0, 0⟩) l rfl rfl HM.out (by simp) Hl.out pa_len (HR.out.alloc hB _) (pa_one l) ?_; intro w1 hown hb1)
  have HO0 := hide (show Own w1 w.heap.size 68 4 pa (.slice (some ⟨w.heap.size, 0, none⟩) n n) (upto (later N) l 0) by rw [upto_zero]; exact hown)
  have hb0 := (show Below w.heap.size w _ from (Below.refl _ _).alloc (Nat.le_refl _) _).trans hb1
  clear hmk hown hb1 HM
  go_loopw [15] (fun i wr => ∃ q : Nat, q ≤ n ∧ i = .int .i64 q ∧ Own wr w.heap.size 68 4 pa (.slice (some ⟨w.heap.size, 0, none⟩) n n) (upto (later N) l q) ∧ Below w.heap.size w wr) (fun i _ => n - (intOf i).toNat)
  case atStart => exact ⟨0, Nat.zero_le _, rfl, HO0.out, hb0⟩
  case round =>
    clear HO0 hb0
    obtain ⟨q, hq, rfl, hown, hbel⟩ := hrel
    have HO := hide hown
    clear hown
    by_cases hlt : q < n
    · have hu : (upto (later N) l q).length = n := by rw [upto_length, Hl.out]
      obtain ⟨x, hx⟩ : ∃ x, l[q]? = some x := ⟨_, List.getElem?_eq_getElem (by rw [Hl.out]; omega)⟩
      obtain ⟨p1, p2, p3, p4, p5, p6, p7, p8⟩ := HF.out x (List.mem_of_getElem? hx)
      obtain ⟨⟨c0, c1, c2, c3⟩, f0, f1, f2, f3⟩ := HO.out.pa_at hu (upto_at hx)
      have hst := hide (HO.out.storeF pa_len hu (j := 1) (u := .int .i64 (x.tick + N)) (upto_at (f := later N) hx) (x' := later N q x) rfl (by omega))
      have hnx := hide (upto_next (f := later N) hx)
      clear hu hx HO
      go_wp2_with fail
      go_roundw
      case rel => exact ⟨q + 1, by omega, by go_num, by rw [← hnx.out]; exact hst.out.1, hbel.trans hst.out.2⟩
      case measure => simp [intOf]; omega
    · have he := hide (show upto (later N) l q = all (later N) l by rw [← upto_all, Hl.out, show q = n by omega])
      go_wp2_with fail
      go_ret
      exact ⟨⟨_, rfl, by rw [← he.out]; exact HO.out⟩, hbel⟩
def Great62.Post (l : List Pa) (n : Nat) (w : World) (e : Ending) (w' : World) : Prop :=
  ∃ b : Bool, e = .returned (.bool b) ∧ (b = false → n ≤ 100 ∧ ∀ x ∈ l, fine x) ∧ Below w.heap.size w w'
set_option maxRecDepth 100000 in
set_option maxHeartbeats 2000000 in
theorem great62 (A : Option Addr) (n c B : Nat) (l : List Pa) (w : World) (hr : Rd w B 4 A n (l.flatMap pa)) (hB : B ≤ w.heap.size) (hl : l.length = n) :
    Calls Try.prog 44 #[.slice A n c] w (Great62.Post l n w) := by
  by_cases hn : 100 < n
  · have d1 : decide (100 < n) = true := by simpa using hn
    clear hr hl
    go_enter Try.func44, Try.ntmps44
    go_wp2_with fail
    go_ret
    exact ⟨true, rfl, fun h => (by cases h), Below.refl _ _⟩
  · have d1 : decide (100 < n) = false := by simp; omega
    have Hl := hide hl
    have HR := hide hr
    clear hl hr
    go_enter Try.func44, Try.ntmps44
    go_wp2_with fail
    go_loopw [3] (fun i wr => ∃ q : Nat, q ≤ n ∧ i = .int .i64 q ∧ (∀ x ∈ l.take q, fine x) ∧ Below w.heap.size w wr) (fun i _ => n - (intOf i).toNat)
    case atStart => exact ⟨0, Nat.zero_le _, rfl, by simp, Below.refl _ _⟩
    case round =>
      obtain ⟨q, hq, rfl, hall, hbel⟩ := hrel
      have HA := hide hall
      have hz := hbel.size
      clear hall
      by_cases hlt : q < n
      · obtain ⟨b, off, x, rfl, hb, hg, c0, c1, c2, c3⟩ := (HR.out.below (hbel.mono hB)).pa_at Hl.out hlt
        have Hg := hide hg
        clear hg
        have hnx : fine x → ∀ y ∈ l.take (q + 1), fine y := fun hx => by
          rw [List.take_add_one, Hg.out]
          intro y hy
          rcases List.mem_append.1 hy with hy | hy
          · exact HA.out y hy
          · simp at hy; subst hy; exact hx
        have HN := hide hnx
        clear hnx
        by_cases h1 : min (min (min x.id x.tick) x.fr) x.to < -1099511627776
        · go_wp2_with fail
          go_ret
          exact ⟨true, rfl, fun h => (by cases h), hbel.alloc hz _⟩
        · by_cases h4 : 1099511627776 < max (max (max x.id x.tick) x.fr) x.to
          · go_wp2_with fail
            go_ret
            exact ⟨true, rfl, fun h => (by cases h), hbel.alloc hz _⟩
          · have hf := hide (HN.out ⟨by omega, by omega, by omega, by omega, by omega, by omega, by omega, by omega⟩)
            go_wp2_with fail
            go_roundw
            case rel => exact ⟨q + 1, by omega, by go_num, hf.out, hbel.alloc hz _⟩
            case measure => simp [intOf]; omega
      · have hA2 := HA.out
        rw [List.take_of_length_le (by rw [Hl.out]; omega)] at hA2
        have H2 := hide hA2
        clear hA2
        go_wp2_with fail
        go_ret
        exact ⟨false, rfl, fun _ => ⟨by omega, H2.out⟩, hbel⟩
set_option maxRecDepth 100000 in
set_option maxHeartbeats 2000000 in
theorem people_alive (w : World) : Calls Try.prog 51 #[] w fun e w' => e = .returned (.bool true) ∧ Below w.heap.size w w' := by
  have HF := hide (show ∀ x ∈ [(⟨0, 0, 0, 2⟩ : Pa)], fine x from fun x hx => by simp at hx; subst hx; simp [fine])
  have HE := hide (show all (mirror 5) [(⟨0, 0, 0, 2⟩ : Pa)] = [⟨0, 0, 4, 2⟩] from by simp [all, mirror])
  go_enter Try.func51, Try.ntmps51
  go_wp2_with fail
  refine (people_mirror _ 1 1 _ [⟨0, 0, 0, 2⟩] 5 _ (Rd.new w 68 (xs := [.int .i64 0, .int .i64 0, .int .i64 0, .int .i64 2]) rfl) (by simp) rfl (by omega) HF.out (by omega) (by omega)).mono ?_; rintro e w1 ⟨⟨v, rfl, hown⟩, hb1⟩
  rw [HE.out] at hown
  obtain ⟨A, c, rfl, hc, hrd⟩ : ∃ (A : Option Addr) (c : Nat), v = .slice A 1 c ∧ 1 ≤ c ∧ Rd w1 w1.heap.size 4 A 1 ([(⟨0, 0, 4, 2⟩ : Pa)].flatMap pa) := hown.shape
  have HR := hide (hrd.alloc (Nat.le_refl _) (.cells #[.int .i64 0, .int .i64 0, .int .i64 4, .int .i64 2] 68))
  have hb := then_ (show Below w.heap.size w _ from by go_grown) hb1 (Nat.le_refl _)
  have hz := hb1.size
  simp at hz
  clear hown hrd hb1
  go_wp2_with fail
  refine (eqPa_same _ _ _ _ _ _ _ [⟨0, 0, 4, 2⟩] _ HR.out (Rd.new w1 68 (xs := [.int .i64 0, .int .i64 0, .int .i64 4, .int .i64 2]) rfl) rfl (by omega)).mono ?_; rintro e w3 ⟨rfl, m, rfl⟩
  go_wp2_with fail
  go_ret
  exact ⟨rfl, below_drewN (hb.alloc (by omega) _) _⟩
end Go.Proofs.Ytkgkilogjodccaa
