/-
  Layers of rows, plainly (no program in sight).
-/
import Derived.Test.YtkgkilogjodccaaParetoPlain
namespace Go.Proofs.Ytkgkilogjodccaa.ParetoP
set_option linter.unusedVariables false
set_option linter.unusedSimpArgs false
theorem sum_le {l m : List Int} (hl : l.length = m.length) (hg : (l.zip m).any gt = false) : l.sum ≤ m.sum ∧ ((l.zip m).any lt = true → l.sum < m.sum) := by
  induction l generalizing m with
  | nil => cases m with
    | nil => simp
    | cons y m => simp at hl
  | cons x l ih =>
    cases m with
    | nil => simp at hl
    | cons y m =>
      simp only [List.zip_cons_cons, List.any_cons, Bool.or_eq_false_iff] at hg
      have h1 : ¬ y < x := by have := hg.1; simpa [gt] using this
      obtain ⟨h2, h3⟩ := ih (by simpa using hl) hg.2
      simp only [List.sum_cons]
      refine ⟨by omega, fun h => ?_⟩
      simp only [List.zip_cons_cons, List.any_cons, Bool.or_eq_true] at h
      rcases h with h | h
      · have : x < y := by simpa [lt] using h
        omega
      · have := h3 h
        omega
theorem bt_sum {l m : List Int} (h : bt l m = true) : l.sum < m.sum := by
  unfold bt at h
  simp only [Bool.and_eq_true, beq_iff_eq, Bool.not_eq_true'] at h
  exact (sum_le h.1.1 h.1.2).2 h.2
/-- place by place -/
theorem bt_iff {l m : List Int} : bt l m = true ↔ l.length = m.length ∧ (∀ (i : Nat) (x y : Int), l[i]? = some x → m[i]? = some y → x ≤ y) ∧ ∃ (i : Nat) (x y : Int), l[i]? = some x ∧ m[i]? = some y ∧ x < y := by
  unfold bt
  simp only [Bool.and_eq_true, beq_iff_eq, Bool.not_eq_true']
  constructor
  · rintro ⟨⟨h1, h2⟩, h3⟩
    refine ⟨h1, fun i x y hx hy => ?_, ?_⟩
    · have := List.any_eq_false.1 h2 (x, y) (List.mem_of_getElem? (zip_get hx hy))
      simp [gt] at this; omega
    · obtain ⟨⟨x, y⟩, hm, hlt⟩ := List.any_eq_true.1 h3
      obtain ⟨i, hi⟩ := List.mem_iff_getElem?.1 hm
      simp only [List.zip, List.getElem?_zipWith] at hi
      cases hx : l[i]? with
      | none => simp [hx] at hi
      | some x' =>
        cases hy : m[i]? with
        | none => simp [hx, hy] at hi
        | some y' =>
          simp [hx, hy] at hi
          obtain ⟨rfl, rfl⟩ := hi
          exact ⟨i, x', y', hx, hy, by simpa [lt] using hlt⟩
  · rintro ⟨h1, h2, i, x, y, hx, hy, hlt⟩
    refine ⟨⟨h1, ?_⟩, ?_⟩
    · rw [List.any_eq_false]
      rintro ⟨a, b⟩ hm
      obtain ⟨j, hj⟩ := List.mem_iff_getElem?.1 hm
      simp only [List.zip, List.getElem?_zipWith] at hj
      cases hx : l[j]? with
      | none => simp [hx] at hj
      | some x' =>
        cases hy : m[j]? with
        | none => simp [hx, hy] at hj
        | some y' =>
          simp [hx, hy] at hj
          obtain ⟨rfl, rfl⟩ := hj
          have := h2 j _ _ hx hy
          simp [gt]; omega
    · exact List.any_eq_true.2 ⟨(x, y), List.mem_of_getElem? (zip_get hx hy), by simpa [lt] using hlt⟩
theorem bt_trans {a b c : List Int} (h1 : bt a b = true) (h2 : bt b c = true) : bt a c = true := by
  rw [bt_iff] at *
  obtain ⟨l1, g1, i, x, y, hx, hy, hlt⟩ := h1
  obtain ⟨l2, g2, _⟩ := h2
  have hi := (List.getElem?_eq_some_iff.1 hy).1
  refine ⟨l1.trans l2, fun j p q hp hq => ?_, i, x, c[i]'(by omega), hx, List.getElem?_eq_getElem _, ?_⟩
  · have hj := (List.getElem?_eq_some_iff.1 hp).1
    have := g1 j p (b[j]'(by omega)) hp (List.getElem?_eq_getElem _)
    have := g2 j (b[j]'(by omega)) q (List.getElem?_eq_getElem _) hq
    omega
  · have := g2 i y (c[i]'(by omega)) hy (List.getElem?_eq_getElem _)
    omega
/-- row i of the rows -/
abbrev rw_ (ls : List (List Int)) (i : Nat) : List Int := ls.getD i []
/-- what holds ahead of round n: who has left, in which layer -/
structure Lay (ls : List (List Int)) (n : Nat) (left : Nat → Bool) (out : Nat → Nat) : Prop where
  low : ∀ i, i < ls.length → left i = true → out i < n ∧ (∀ k, k < ls.length → bt (rw_ ls k) (rw_ ls i) = true → left k = true ∧ out k < out i) ∧ (out i = 0 ∨ ∃ k, k < ls.length ∧ bt (rw_ ls k) (rw_ ls i) = true ∧ out k + 1 = out i)
  rest : ∀ i, i < ls.length → left i = false → n = 0 ∨ ∃ k, k < ls.length ∧ left k = true ∧ out k + 1 = n ∧ bt (rw_ ls k) (rw_ ls i) = true
theorem Lay.zero (ls : List (List Int)) (out : Nat → Nat) : Lay ls 0 (fun _ => false) out := ⟨fun i _ h => (by cases h), fun i _ _ => .inl rfl⟩
/-- the least of some places -/
theorem least_of (P : Nat → Prop) (f : Nat → Int) : ∀ (N : Nat), (∃ i, i < N ∧ P i) → ∃ i, i < N ∧ P i ∧ ∀ j, j < N → P j → f i ≤ f j := by
  intro N
  induction N with
  | zero => rintro ⟨i, h, _⟩; omega
  | succ N ih =>
    rintro ⟨i, hi, hp⟩
    by_cases hex : ∃ i, i < N ∧ P i
    · obtain ⟨m, hm, hpm, hmin⟩ := ih hex
      by_cases hN : P N ∧ f N < f m
      · refine ⟨N, by omega, hN.1, fun j hj hpj => ?_⟩
        by_cases he : j = N
        · subst he; exact Int.le_refl _
        · have := hmin j (by omega) hpj; omega
      · refine ⟨m, by omega, hpm, fun j hj hpj => ?_⟩
        by_cases he : j = N
        · subst he
          have : ¬ f j < f m := fun h => hN ⟨hpj, h⟩
          omega
        · exact hmin j (by omega) hpj
    · have he : i = N := by
        rcases Nat.lt_or_ge i N with h | h
        · exact absurd ⟨i, h, hp⟩ hex
        · omega
      subst he
      refine ⟨i, by omega, hp, fun j hj hpj => ?_⟩
      by_cases he : j = i
      · subst he; exact Int.le_refl _
      · exact absurd ⟨j, by omega, hpj⟩ hex
/-- is in the front of those that have not left -/
def inF (ls : List (List Int)) (left : Nat → Bool) (i : Nat) : Prop := left i = false ∧ ∀ k, k < ls.length → left k = false → bt (rw_ ls k) (rw_ ls i) = false
theorem Lay.next {ls : List (List Int)} {n : Nat} {left left' : Nat → Bool} {out out' : Nat → Nat} (h : Lay ls n left out)
    (h1 : ∀ i, i < ls.length → inF ls left i → left' i = true ∧ out' i = n) (h2 : ∀ i, i < ls.length → ¬ inF ls left i → left' i = left i ∧ out' i = out i) : Lay ls (n + 1) left' out' := by
  have old : ∀ k, k < ls.length → left k = true → left' k = true ∧ out' k = out k := fun k hk hl => by
    have := h2 k hk (fun hf => by rw [hf.1] at hl; cases hl)
    exact ⟨by rw [this.1, hl], this.2⟩
  constructor
  · intro i hi hl
    by_cases hf : inF ls left i
    · obtain ⟨_, ho⟩ := h1 i hi hf
      have hb : ∀ k, k < ls.length → bt (rw_ ls k) (rw_ ls i) = true → left k = true := fun k hk hbt => by
        cases hlk : left k with
        | true => rfl
        | false => rw [hf.2 k hk hlk] at hbt; cases hbt
      refine ⟨by omega, fun k hk hbt => ?_, ?_⟩
      · have hlk := hb k hk hbt
        obtain ⟨a, b⟩ := old k hk hlk
        refine ⟨a, ?_⟩
        rw [b, ho]
        exact (h.low k hk hlk).1
      · rcases h.rest i hi hf.1 with h0 | ⟨k, hk, hlk, hok, hbt⟩
        · left; omega
        · right
          obtain ⟨a, b⟩ := old k hk hlk
          exact ⟨k, hk, hbt, by omega⟩
    · obtain ⟨a, b⟩ := h2 i hi hf
      rw [a] at hl
      obtain ⟨c, d, e⟩ := h.low i hi hl
      refine ⟨by omega, fun k hk hbt => ?_, ?_⟩
      · obtain ⟨p, q⟩ := d k hk hbt
        obtain ⟨a', b'⟩ := old k hk p
        exact ⟨a', by omega⟩
      · rcases e with e | ⟨k, hk, hbt, ho⟩
        · left; omega
        · right
          obtain ⟨a', b'⟩ := old k hk (d k hk hbt).1
          exact ⟨k, hk, hbt, by omega⟩
  · intro i hi hl
    right
    have hnf : ¬ inF ls left i := fun hf => by rw [(h1 i hi hf).1] at hl; cases hl
    have hli : left i = false := by rw [(h2 i hi hnf).1] at hl; exact hl
    have hex : ∃ k, k < ls.length ∧ left k = false ∧ bt (rw_ ls k) (rw_ ls i) = true := by
      by_cases hex : ∃ k, k < ls.length ∧ left k = false ∧ bt (rw_ ls k) (rw_ ls i) = true
      · exact hex
      · refine absurd ⟨hli, fun k hk hlk => ?_⟩ hnf
        cases hb : bt (rw_ ls k) (rw_ ls i) with
        | false => rfl
        | true => exact absurd ⟨k, hk, hlk, hb⟩ hex
    obtain ⟨k, hk, ⟨hlk, hbt⟩, hmin⟩ := least_of (fun k => left k = false ∧ bt (rw_ ls k) (rw_ ls i) = true) (fun k => (rw_ ls k).sum) ls.length hex
    have hfk : inF ls left k := ⟨hlk, fun j hj hlj => by
      cases hb : bt (rw_ ls j) (rw_ ls k) with
      | false => rfl
      | true =>
        have := hmin j hj ⟨hlj, bt_trans hb hbt⟩
        have := bt_sum hb
        omega⟩
    obtain ⟨a, b⟩ := h1 k hk hfk
    exact ⟨k, hk, a, by omega, hbt⟩
/-- where some have not left, the front is not empty -/
theorem front_some {ls : List (List Int)} {left : Nat → Bool} (h : ∃ i, i < ls.length ∧ left i = false) : ∃ i, i < ls.length ∧ inF ls left i := by
  obtain ⟨k, hk, hlk, hmin⟩ := least_of (fun k => left k = false) (fun k => (rw_ ls k).sum) ls.length h
  refine ⟨k, hk, hlk, fun j hj hlj => ?_⟩
  cases hb : bt (rw_ ls j) (rw_ ls k) with
  | false => rfl
  | true =>
    have := hmin j hj hlj
    have := bt_sum hb
    omega
/-- when all have left: the layer is one behind the last of those that beat -/
def last (ls : List (List Int)) (out : Nat → Nat) (i : Nat) : Nat → Int
  | 0 => -1
  | k + 1 => if bt (rw_ ls k) (rw_ ls i) = true then max (last ls out i k) (out k : Int) else last ls out i k
theorem last_le {ls : List (List Int)} {out : Nat → Nat} {i : Nat} {v : Int} (hv : -1 ≤ v) : ∀ (m : Nat), (∀ k, k < m → bt (rw_ ls k) (rw_ ls i) = true → (out k : Int) ≤ v) → last ls out i m ≤ v
  | 0, _ => hv
  | m + 1, h => by
    have ih := last_le hv m (fun k hk => h k (by omega))
    unfold last
    split
    · have := h m (by omega) (by assumption); omega
    · exact ih
theorem le_last {ls : List (List Int)} {out : Nat → Nat} {i k : Nat} (hb : bt (rw_ ls k) (rw_ ls i) = true) : ∀ (m : Nat), k < m → (out k : Int) ≤ last ls out i m
  | 0, h => by omega
  | m + 1, h => by
    unfold last
    by_cases he : k = m
    · subst he; rw [if_pos hb]; omega
    · have := le_last (out := out) hb m (by omega)
      split <;> omega
theorem last_ge {ls : List (List Int)} {out : Nat → Nat} {i : Nat} : ∀ (m : Nat), -1 ≤ last ls out i m
  | 0 => Int.le_refl _
  | m + 1 => by
    have := last_ge (ls := ls) (out := out) (i := i) m
    unfold last
    split <;> omega
theorem Lay.told {ls : List (List Int)} {n : Nat} {left : Nat → Bool} {out : Nat → Nat} (h : Lay ls n left out) (ha : ∀ i, i < ls.length → left i = true) {i : Nat} (hi : i < ls.length) : (out i : Int) = last ls out i ls.length + 1 := by
  obtain ⟨_, h2, h3⟩ := h.low i hi (ha i hi)
  have hup : last ls out i ls.length ≤ (out i : Int) - 1 := last_le (by omega) _ (fun k hk hb => by have := (h2 k hk hb).2; omega)
  have hge := last_ge (ls := ls) (out := out) (i := i) ls.length
  rcases h3 with h3 | ⟨k, hk, hb, ho⟩
  · omega
  · have := le_last (out := out) hb _ hk
    omega
/-- d is the ideal of the first m rows -/
structure Idl (ls : List (List Int)) (m : Nat) (d : List Int) : Prop where
  len : ∀ i, i < m → (rw_ ls i).length = d.length
  le : ∀ (i j : Nat) (x y : Int), i < m → d[j]? = some x → (rw_ ls i)[j]? = some y → x ≤ y
  some_ : ∀ (j : Nat) (x : Int), d[j]? = some x → ∃ i, i < m ∧ (rw_ ls i)[j]? = some x
theorem Idl.first (ls : List (List Int)) : Idl ls 1 (rw_ ls 0) :=
  ⟨fun i hi => by obtain rfl : i = 0 := by omega
                  rfl,
   fun i j x y hi hx hy => by obtain rfl : i = 0 := by omega
                              rw [hx] at hy; injection hy with hy; omega,
   fun j x hx => ⟨0, by omega, hx⟩⟩
theorem Idl.next {ls : List (List Int)} {m : Nat} {d : List Int} (h : Idl ls m d) (hl : (rw_ ls m).length = d.length) : Idl ls (m + 1) (List.zipWith min d (rw_ ls m)) := by
  refine ⟨fun i hi => ?_, fun i j x y hi hx hy => ?_, fun j x hx => ?_⟩
  · rw [List.length_zipWith, hl, Nat.min_self]
    by_cases he : i = m
    · subst he; exact hl
    · exact h.len i (by omega)
  · rw [List.getElem?_zipWith] at hx
    cases ha : d[j]? with
    | none => simp [ha] at hx
    | some a =>
      cases hb : (rw_ ls m)[j]? with
      | none => rw [ha, hb] at hx; simp at hx
      | some b =>
        rw [ha, hb] at hx
        simp at hx
        by_cases he : i = m
        · subst he; rw [hb] at hy; injection hy with hy; omega
        · have := h.le i j a y (by omega) ha hy; omega
  · rw [List.getElem?_zipWith] at hx
    cases ha : d[j]? with
    | none => simp [ha] at hx
    | some a =>
      cases hb : (rw_ ls m)[j]? with
      | none => rw [ha, hb] at hx; simp at hx
      | some b =>
        rw [ha, hb] at hx
        simp at hx
        by_cases hab : a ≤ b
        · obtain ⟨i, hi, hix⟩ := h.some_ j a ha
          exact ⟨i, by omega, by rw [hix]; congr 1; omega⟩
        · exact ⟨m, by omega, by rw [hb]; congr 1; omega⟩
theorem Idl.beats {ls : List (List Int)} {m : Nat} {d : List Int} (h : Idl ls m d) {i : Nat} (hi : i < m) (hne : d ≠ rw_ ls i) : bt d (rw_ ls i) = true := by
  rw [bt_iff]
  refine ⟨(h.len i hi).symm, fun j x y hx hy => h.le i j x y hi hx hy, ?_⟩
  by_cases hex : ∃ (j : Nat) (x y : Int), d[j]? = some x ∧ (rw_ ls i)[j]? = some y ∧ x < y
  · exact hex
  · refine absurd ?_ hne
    apply List.ext_getElem?
    intro j
    cases hx : d[j]? with
    | none =>
      rw [List.getElem?_eq_none]
      rw [h.len i hi]
      exact List.getElem?_eq_none_iff.1 hx
    | some x =>
      have hj := (List.getElem?_eq_some_iff.1 hx).1
      cases hy : (rw_ ls i)[j]? with
      | none => have := List.getElem?_eq_none_iff.1 hy; rw [h.len i hi] at this; omega
      | some y =>
        have h1 := h.le i j x y hi hx hy
        have h2 : ¬ x < y := fun hl => hex ⟨j, x, y, hx, hy, hl⟩
        congr 1; omega
/-- the first q places are the lesser ones -/
def mix (d r : List Int) (q : Nat) : List Int := (List.zipWith min d r).take q ++ d.drop q
theorem mix_zero (d r : List Int) : mix d r 0 = d := by simp [mix]
theorem mix_all {d r : List Int} {n : Nat} (h : d.length = n) (h2 : r.length = n) : mix d r n = List.zipWith min d r := by
  unfold mix
  rw [List.drop_of_length_le (by omega), List.append_nil, List.take_of_length_le (by rw [List.length_zipWith]; omega)]
theorem mix_length {d r : List Int} {n q : Nat} (h : d.length = n) (h2 : r.length = n) (hq : q ≤ n) : (mix d r q).length = n := by
  unfold mix
  rw [List.length_append, List.length_take, List.length_drop, List.length_zipWith]; omega
theorem mix_at {d r : List Int} {n q : Nat} (h : d.length = n) (h2 : r.length = n) (hq : q < n) : (mix d r q)[q]? = d[q]? := by
  unfold mix
  rw [List.getElem?_append_right (by rw [List.length_take, List.length_zipWith]; omega), List.length_take, List.length_zipWith, List.getElem?_drop]
  congr 1; omega
theorem mix_next {d r : List Int} {n q : Nat} {x y : Int} (h : d.length = n) (h2 : r.length = n) (hx : d[q]? = some x) (hy : r[q]? = some y) : (mix d r q).set q (min x y) = mix d r (q + 1) := by
  have hq : q < n := by have := (List.getElem?_eq_some_iff.1 hx).1; omega
  apply List.ext_getElem?
  intro j
  rw [List.getElem?_set]
  by_cases he : q = j
  · subst he
    rw [if_pos rfl, if_pos (by rw [mix_length h h2 (by omega)]; exact hq)]
    unfold mix
    rw [List.getElem?_append_left (by rw [List.length_take, List.length_zipWith]; omega), List.getElem?_take, if_pos (by omega), List.getElem?_zipWith, hx, hy]
  · rw [if_neg he]
    unfold mix
    rcases Nat.lt_or_ge j q with hlt | hge
    · rw [List.getElem?_append_left (by rw [List.length_take, List.length_zipWith]; omega), List.getElem?_append_left (by rw [List.length_take, List.length_zipWith]; omega), List.getElem?_take, List.getElem?_take, if_pos hlt, if_pos (by omega)]
    · rw [List.getElem?_append_right (by rw [List.length_take, List.length_zipWith]; omega), List.getElem?_append_right (by rw [List.length_take, List.length_zipWith]; omega), List.length_take, List.length_take, List.length_zipWith, List.getElem?_drop, List.getElem?_drop]
      congr 1; omega
end Go.Proofs.Ytkgkilogjodccaa.ParetoP
