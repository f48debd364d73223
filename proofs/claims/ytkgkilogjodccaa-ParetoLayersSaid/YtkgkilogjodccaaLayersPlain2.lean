/-
  A round of layers, plainly: who has not left, the front, what is stored.
-/
import Derived.Test.YtkgkilogjodccaaLayersPlain
namespace Go.Proofs.Ytkgkilogjodccaa.ParetoP
set_option linter.unusedVariables false
set_option linter.unusedSimpArgs false
/-- the first q places that have not left -/
def idx (lb : List Bool) (q : Nat) : List Nat := (List.range q).filter fun i => !(lb.getD i false)
theorem idx_yes {lb : List Bool} {q : Nat} (h : lb[q]? = some false) : idx lb (q + 1) = idx lb q ++ [q] := by
  unfold idx; rw [List.range_succ, List.filter_append]; simp [List.getD, h]
theorem idx_no {lb : List Bool} {q : Nat} (h : lb[q]? = some true) : idx lb (q + 1) = idx lb q := by
  unfold idx; rw [List.range_succ, List.filter_append]; simp [List.getD, h]
theorem idx_mem {lb : List Bool} {q i : Nat} : i ∈ idx lb q ↔ i < q ∧ lb.getD i false = false := by
  unfold idx; simp
theorem idx_rise (lb : List Bool) (q : Nat) : (idx lb q).Pairwise (· < ·) := List.Pairwise.filter _ List.pairwise_lt_range
theorem idx_length (lb : List Bool) (q : Nat) : (idx lb q).length ≤ q := by
  have := List.length_filter_le (fun i => !(lb.getD i false)) (List.range q)
  simpa [idx] using this
/-- the rows that have not left -/
def rest (ls : List (List Int)) (lb : List Bool) : List (List Int) := (idx lb ls.length).map fun i => rw_ ls i
/-- the places, among those, of the front -/
def frn (ls : List (List Int)) (lb : List Bool) : List Nat := (List.range (rest ls lb).length).filter fun j => !beaten (rest ls lb) ((rest ls lb).getD j [])
theorem front_frn (ls : List (List Int)) (lb : List Bool) : front (rest ls lb) (rest ls lb).length = (frn ls lb).map Int.ofNat := rfl
/-- the places of the front -/
def frs (ls : List (List Int)) (lb : List Bool) : List Nat := (frn ls lb).map fun j => (idx lb ls.length).getD j 0
theorem frn_lt {ls : List (List Int)} {lb : List Bool} {j : Nat} (h : j ∈ frn ls lb) : j < (idx lb ls.length).length := by
  unfold frn at h
  have := (List.mem_filter.1 h).1
  simpa [rest] using this
theorem frs_rise (ls : List (List Int)) (lb : List Bool) : (frs ls lb).Pairwise (· < ·) := by
  unfold frs
  rw [List.pairwise_map]
  have h1 : (frn ls lb).Pairwise (· < ·) := List.Pairwise.filter _ List.pairwise_lt_range
  refine h1.imp_of_mem fun {a b} ha hb hab => ?_
  have h2 := frn_lt ha
  have h3 := frn_lt hb
  have := (List.pairwise_iff_getElem.1 (idx_rise lb ls.length)) a b h2 h3 hab
  simpa [List.getD, List.getElem?_eq_getElem h2, List.getElem?_eq_getElem h3] using this
theorem rest_get {ls : List (List Int)} {lb : List Bool} {j : Nat} (hj : j < (idx lb ls.length).length) : (rest ls lb).getD j [] = rw_ ls ((idx lb ls.length).getD j 0) := by
  unfold rest
  simp [List.getD, List.getElem?_map, List.getElem?_eq_getElem hj]
theorem frs_mem {ls : List (List Int)} {lb : List Bool} {i : Nat} (hi : i < ls.length) : i ∈ frs ls lb ↔ inF ls (fun i => lb.getD i false) i := by
  unfold frs
  rw [List.mem_map]
  constructor
  · rintro ⟨j, hj, rfl⟩
    have hlt := frn_lt hj
    have hm : (idx lb ls.length).getD j 0 ∈ idx lb ls.length := by
      simp [List.getD, List.getElem?_eq_getElem hlt]
    refine ⟨(idx_mem.1 hm).2, fun k hk hlk => ?_⟩
    have hb := (List.mem_filter.1 hj).2
    rw [rest_get hlt] at hb
    have hb : beaten (rest ls lb) (rw_ ls ((idx lb ls.length).getD j 0)) = false := by simpa using hb
    unfold beaten at hb
    have := List.any_eq_false.1 hb (rw_ ls k) (List.mem_map.2 ⟨k, idx_mem.2 ⟨hk, hlk⟩, rfl⟩)
    simpa using this
  · rintro ⟨h1, h2⟩
    have hm : i ∈ idx lb ls.length := idx_mem.2 ⟨hi, h1⟩
    obtain ⟨j, hj⟩ := List.mem_iff_getElem?.1 hm
    obtain ⟨hlt, he⟩ := List.getElem?_eq_some_iff.1 hj
    have hg : (idx lb ls.length).getD j 0 = i := by simp [List.getD, hj]
    refine ⟨j, List.mem_filter.2 ⟨by simpa [rest] using hlt, ?_⟩, hg⟩
    rw [rest_get hlt, hg]
    have : beaten (rest ls lb) (rw_ ls i) = false := by
      unfold beaten
      rw [List.any_eq_false]
      intro b hb
      obtain ⟨k, hk, rfl⟩ := List.mem_map.1 hb
      have := h2 k (idx_mem.1 hk).1 (idx_mem.1 hk).2
      rw [this]; exact Bool.false_ne_true
    rw [this]; rfl
/-- behind the first m of the front -/
structure Stp (S : List Nat) (n m : Nat) (lb lb' : List Bool) (lo lo' : List Nat) : Prop where
  len : lb'.length = lb.length ∧ lo'.length = lb.length
  left : ∀ i, i < lb.length → lb'.getD i false = (lb.getD i false || decide (i ∈ S.take m))
  out : ∀ i, i < lb.length → lo'.getD i 0 = if i ∈ S.take m then n else lo.getD i 0
  cnt : lb'.count true = lb.count true + m
theorem Stp.start (S : List Nat) (n : Nat) {lb : List Bool} {lo : List Nat} (h : lo.length = lb.length) : Stp S n 0 lb lb lo lo :=
  ⟨⟨rfl, h⟩, fun i _ => by simp, fun i _ => by simp, by simp⟩
theorem mem_take_succ {S : List Nat} {m x i : Nat} (h : S[m]? = some x) : i ∈ S.take (m + 1) ↔ i ∈ S.take m ∨ i = x := by
  rw [List.take_add_one, h]; simp
theorem Stp.next {S : List Nat} {n m x : Nat} {lb lb' : List Bool} {lo lo' : List Nat} (h : Stp S n m lb lb' lo lo') (hx : S[m]? = some x) (hr : S.Pairwise (· < ·)) (hl : x < lb.length) (hb : lb.getD x false = false) : Stp S n (m + 1) lb (lb'.set x true) lo (lo'.set x n) := by
  have hnot : x ∉ S.take m := by
    intro hm
    obtain ⟨j, hj⟩ := List.mem_iff_getElem?.1 hm
    rw [List.getElem?_take] at hj
    split at hj
    · rename_i hlt
      obtain ⟨h1, e1⟩ := List.getElem?_eq_some_iff.1 hj
      obtain ⟨h2, e2⟩ := List.getElem?_eq_some_iff.1 hx
      have := (List.pairwise_iff_getElem.1 hr) j m h1 h2 hlt
      omega
    · cases hj
  have hlx : x < lb'.length := by rw [h.len.1]; exact hl
  have hlo : x < lo'.length := by rw [h.len.2]; exact hl
  refine ⟨⟨by rw [List.length_set]; exact h.len.1, by rw [List.length_set]; exact h.len.2⟩, fun i hi => ?_, fun i hi => ?_, ?_⟩
  · by_cases he : x = i
    · subst he
      have : x ∈ S.take (m + 1) := (mem_take_succ hx).2 (.inr rfl)
      simp [List.getD, List.getElem?_set, hlx, this]
    · have h0 := h.left i hi
      have : (i ∈ S.take (m + 1)) ↔ i ∈ S.take m := by rw [mem_take_succ hx]; exact ⟨fun h => h.resolve_right (fun e => he e.symm), .inl⟩
      simp only [List.getD, List.getElem?_set, he, if_false] at h0 ⊢
      rw [h0]
      simp only [this]
  · by_cases he : x = i
    · subst he
      have : x ∈ S.take (m + 1) := (mem_take_succ hx).2 (.inr rfl)
      simp [List.getD, List.getElem?_set, hlo, this]
    · have h0 := h.out i hi
      have : (i ∈ S.take (m + 1)) ↔ i ∈ S.take m := by rw [mem_take_succ hx]; exact ⟨fun h => h.resolve_right (fun e => he e.symm), .inl⟩
      simp only [List.getD, List.getElem?_set, he, if_false] at h0 ⊢
      rw [h0]
      simp only [this]
  · have hxf : lb'[x] = false := by
      have := h.left x hl
      rw [hb] at this
      simp [List.getD, List.getElem?_eq_getElem hlx, hnot] at this
      exact this
    rw [List.count_set hlx, hxf, h.cnt]
    simp
    omega
theorem Stp.lay {ls : List (List Int)} {n : Nat} {lb lb' : List Bool} {lo lo' : List Nat} (h : Stp (frs ls lb) n (frs ls lb).length lb lb' lo lo') (hlen : lb.length = ls.length) (hlay : Lay ls n (fun i => lb.getD i false) (fun i => lo.getD i 0)) :
    Lay ls (n + 1) (fun i => lb'.getD i false) (fun i => lo'.getD i 0) := by
  have hall : ∀ i, i ∈ (frs ls lb).take (frs ls lb).length ↔ i ∈ frs ls lb := fun i => by rw [List.take_length]
  refine hlay.next (fun i hi hf => ?_) (fun i hi hf => ?_)
  · have hm := (hall i).2 ((frs_mem hi).2 hf)
    exact ⟨by simp only [h.left i (by omega), hm]; simp, by simp only [h.out i (by omega), if_pos hm]⟩
  · have hm : ¬ i ∈ (frs ls lb).take (frs ls lb).length := fun hh => hf ((frs_mem hi).1 ((hall i).1 hh))
    exact ⟨by simp only [h.left i (by omega)]; rw [decide_eq_false hm, Bool.or_false], by simp only [h.out i (by omega), if_neg hm]⟩
theorem count_all {lb : List Bool} (h : lb.length ≤ lb.count true) : ∀ i, i < lb.length → lb.getD i false = true := by
  intro i hi
  have h1 : lb.count true = lb.length := Nat.le_antisymm List.count_le_length h
  have := List.count_eq_length.1 h1 lb[i] (List.getElem_mem hi)
  simp [List.getD, List.getElem?_eq_getElem hi, ← this]
theorem frs_pos {ls : List (List Int)} {lb : List Bool} (hlen : lb.length = ls.length) (h : lb.count true < lb.length) : 0 < (frs ls lb).length := by
  have hex : ∃ i, i < ls.length ∧ (fun i => lb.getD i false) i = false := by
    by_cases hex : ∃ i, i < ls.length ∧ lb.getD i false = false
    · exact hex
    · exfalso
      have : lb.count true = lb.length := List.count_eq_length.2 fun b hb => by
        obtain ⟨i, hi⟩ := List.mem_iff_getElem?.1 hb
        have hl := (List.getElem?_eq_some_iff.1 hi).1
        cases b with
        | true => rfl
        | false => exact absurd ⟨i, by omega, by simp [List.getD, hi]⟩ hex
      omega
  obtain ⟨i, hi, hf⟩ := front_some hex
  exact List.length_pos_of_mem ((frs_mem hi).2 hf)
end Go.Proofs.Ytkgkilogjodccaa.ParetoP
