/-
  Heaps of entries: the plain law (no program in sight).
-/
import Derived.Test.YtknmpfimnbenjaaBase
namespace Go.Proofs.Ytknmpfimnbenjaa.HeapP
set_option linter.unusedVariables false
set_option linter.unusedSimpArgs false
structure En where
  t : Int
  k : Int
  i : Int
deriving DecidableEq, Inhabited
def lt (a b : En) : Bool := if a.t ≠ b.t then decide (a.t < b.t) else if a.k ≠ b.k then decide (a.k < b.k) else decide (a.i < b.i)
theorem lt_iff (a b : En) : lt a b = true ↔ a.t < b.t ∨ (a.t = b.t ∧ (a.k < b.k ∨ (a.k = b.k ∧ a.i < b.i))) := by
  unfold lt
  split
  · simp; omega
  · split
    · simp; omega
    · simp; omega
theorem nlt_iff (a b : En) : lt a b = false ↔ ¬ (a.t < b.t ∨ (a.t = b.t ∧ (a.k < b.k ∨ (a.k = b.k ∧ a.i < b.i)))) := by
  rw [← lt_iff]; simp
theorem lt_irrefl (a : En) : lt a a = false := by rw [nlt_iff]; omega
/-- le a b: 'lt b a = false' -/
abbrev le (a b : En) : Prop := lt b a = false
theorem le_refl (a : En) : le a a := lt_irrefl a
theorem le_trans {a b c : En} (h1 : le a b) (h2 : le b c) : le a c := by
  rw [le, nlt_iff] at *; omega
theorem le_of_lt {a b : En} (h : lt a b = true) : le a b := by
  rw [lt_iff] at h; rw [le, nlt_iff]; omega
theorem le_total (a b : En) : le a b ∨ le b a := by
  cases h : lt b a with
  | false => exact .inl h
  | true => exact .inr (le_of_lt h)
theorem le_antisymm {a b : En} (h1 : le a b) (h2 : le b a) : a = b := by
  rw [le, nlt_iff] at *
  cases a; cases b
  simp at *
  omega
/-- in order -/
abbrev Srt (l : List En) : Prop := l.Pairwise le
theorem srt_unique : ∀ {s s' : List En}, Srt s → Srt s' → s.Perm s' → s = s'
  | [], s', _, _, hp => (List.Perm.nil_eq hp)
  | a :: s, [], _, _, hp => by have := hp.length_eq; simp at this
  | a :: s, b :: s', h1, h2, hp => by
    have ha : a ∈ b :: s' := hp.mem_iff.1 (List.mem_cons_self)
    have hb : b ∈ a :: s := hp.mem_iff.2 (List.mem_cons_self)
    have hab : a = b := by
      rw [Srt, List.pairwise_cons] at h1 h2
      rcases List.mem_cons.1 ha with h | h
      · exact h
      · rcases List.mem_cons.1 hb with h' | h'
        · exact h'.symm
        · exact le_antisymm (h1.1 _ h') (h2.1 _ h)
    subst hab
    have hp' := (List.perm_cons a).1 hp
    rw [srt_unique (List.pairwise_cons.1 h1).2 (List.pairwise_cons.1 h2).2 hp']
/-- one more, behind all that are not greater -/
theorem put_srt {l : List En} {e : En} {k : Nat} (hs : Srt l) (h1 : ∀ x ∈ l.drop k, le e x) (h2 : ∀ x ∈ l.take k, le x e) : Srt (l.take k ++ e :: l.drop k) := by
  rw [Srt, List.pairwise_append, List.pairwise_cons]
  refine ⟨hs.sublist (List.take_sublist _ _), ⟨h1, hs.sublist (List.drop_sublist _ _)⟩, ?_⟩
  intro a ha b hb
  rcases List.mem_cons.1 hb with rfl | hb
  · exact h2 a ha
  · exact le_trans (h2 a ha) (h1 b hb)
theorem put_perm (l : List En) (e : En) (k : Nat) : (l.take k ++ e :: l.drop k).Perm (e :: l) := by
  have := List.perm_middle (a := e) (l₁ := l.take k) (l₂ := l.drop k)
  rwa [List.take_append_drop] at this
/-- in a row in order: all ahead of the k'th are no greater than it -/
theorem srt_take {l : List En} {k : Nat} {e y : En} (hs : Srt l) (hk : 0 < k) (hy : l[k - 1]? = some y) (h : le y e) : ∀ x ∈ l.take k, le x e := by
  intro x hx
  obtain ⟨j, hj⟩ := List.mem_iff_getElem?.1 hx
  rw [List.getElem?_take] at hj
  split at hj
  · rename_i hjk
    by_cases he : j = k - 1
    · subst he; rw [hy] at hj; injection hj with hj; subst hj; exact h
    · obtain ⟨hl1, e1⟩ := List.getElem?_eq_some_iff.1 hj
      obtain ⟨hl2, e2⟩ := List.getElem?_eq_some_iff.1 hy
      have := (List.pairwise_iff_getElem.1 hs) j (k - 1) hl1 hl2 (by omega)
      rw [e1, e2] at this
      exact le_trans this h
  · simp at hj
/-- two places exchanged: x stood at i, y at j -/
def sw (L : List En) (i j : Nat) (x y : En) : List En := (L.set i y).set j x
theorem sw_length (L : List En) (i j : Nat) (x y : En) : (sw L i j x y).length = L.length := by simp [sw]
theorem sw_get {L : List En} {i j : Nat} {x y : En} (hx : L[i]? = some x) (hy : L[j]? = some y) (m : Nat) : (sw L i j x y)[m]? = if m = j then some x else if m = i then some y else L[m]? := by
  have h1 := (List.getElem?_eq_some_iff.1 hx).1
  have h2 := (List.getElem?_eq_some_iff.1 hy).1
  unfold sw
  rw [List.getElem?_set, List.getElem?_set]
  by_cases a : j = m
  · subst a; simp [h2]
  · have a' : ¬ m = j := fun h => a h.symm
    by_cases b : i = m
    · subst b; simp [a, a', h1]
    · have b' : ¬ m = i := fun h => b h.symm
      simp [a, a', b, b']
theorem sw_perm {L : List En} {i j : Nat} {x y : En} (hx : L[i]? = some x) (hy : L[j]? = some y) (hij : i ≠ j) : (sw L i j x y).Perm L := by
  obtain ⟨h1, e1⟩ := List.getElem?_eq_some_iff.1 hx
  obtain ⟨h2, e2⟩ := List.getElem?_eq_some_iff.1 hy
  rw [List.perm_iff_count]
  intro a
  unfold sw
  rw [List.count_set (by simpa using h2), List.count_set h1]
  have h3 : (L.set i y)[j]'(by simpa using h2) = y := by rw [List.getElem_set_ne hij]; exact e2
  rw [h3, e1]
  have p1 : (if (x == a) = true then 1 else 0) ≤ L.count a := by
    split
    · rename_i h; have h : x = a := by simpa using h
      subst h; exact List.count_pos_iff.2 (e1 ▸ List.getElem_mem _)
    · exact Nat.zero_le _
  have p2 : (if (y == a) = true then 1 else 0) ≤ L.count a - (if (x == a) = true then 1 else 0) + (if (y == a) = true then 1 else 0) := by omega
  omega
/-- the entry at j is no less than the one above it -/
def ok (L : List En) (j : Nat) : Prop := ∀ x y, L[j]? = some x → L[(j - 1) / 2]? = some y → le y x
/-- a heap from a place on -/
def From (L : List En) (s : Nat) : Prop := ∀ j, 0 < j → s ≤ (j - 1) / 2 → ok L j
def IsHeap (L : List En) : Prop := From L 0
theorem root_least {L : List En} (h : IsHeap L) {r : En} (hr : L[0]? = some r) : ∀ (j : Nat) (x : En), L[j]? = some x → le r x := by
  intro j
  induction j using Nat.strongRecOn with
  | _ j ih =>
    intro x hx
    by_cases h0 : j = 0
    · subst h0; rw [hr] at hx; injection hx with hx; subst hx; exact le_refl _
    · have hlt : (j - 1) / 2 < L.length := by have := (List.getElem?_eq_some_iff.1 hx).1; omega
      have hy : L[(j - 1) / 2]? = some L[(j - 1) / 2] := List.getElem?_eq_getElem hlt
      exact le_trans (ih _ (by omega) _ hy) (h j (by omega) (Nat.zero_le _) x _ hx hy)
theorem root_mem {L : List En} (h : IsHeap L) {r : En} (hr : L[0]? = some r) : ∀ x ∈ L, le r x := fun x hx => by
  obtain ⟨j, hj⟩ := List.mem_iff_getElem?.1 hx
  exact root_least h hr j x hj
/-- a heap but for one place, which may be less than the one above it -/
def Up (L : List En) (i : Nat) : Prop := (∀ j, 0 < j → j ≠ i → ok L j) ∧ (∀ c x z, 0 < i → 0 < c → (c - 1) / 2 = i → L[c]? = some x → L[(i - 1) / 2]? = some z → le z x)
theorem up_start {L : List En} (h : IsHeap L) (e : En) : Up (L ++ [e]) L.length := by
  constructor
  · intro j hj hne x y hx hy
    have hl := (List.getElem?_eq_some_iff.1 hx).1
    rw [List.length_append, List.length_singleton] at hl
    rw [List.getElem?_append_left (by omega)] at hx
    rw [List.getElem?_append_left (by omega)] at hy
    exact h j hj (Nat.zero_le _) x y hx hy
  · intro c x z _ _ hc hx _
    have hl := (List.getElem?_eq_some_iff.1 hx).1
    rw [List.length_append, List.length_singleton] at hl
    omega
theorem up_end {L : List En} {i : Nat} (h : Up L i) (h2 : i = 0 ∨ (∀ x y, L[i]? = some x → L[(i - 1) / 2]? = some y → le y x)) : IsHeap L := by
  intro j hj _
  by_cases he : j = i
  · subst he
    rcases h2 with h2 | h2
    · omega
    · exact h2
  · exact h.1 j hj he
theorem up_step {L : List En} {i p : Nat} {x y : En} (h : Up L i) (hi : 0 < i) (hp : p = (i - 1) / 2) (hx : L[i]? = some x) (hy : L[p]? = some y) (hlt : lt x y = true) : Up (sw L i p x y) p := by
  have hne : i ≠ p := by omega
  constructor
  · intro j hj hjp a b ha hb
    rw [sw_get hx hy] at ha hb
    rw [if_neg hjp] at ha
    by_cases hji : j = i
    · subst hji
      rw [if_pos rfl] at ha
      rw [if_pos hp.symm] at hb
      injection ha with ha; injection hb with hb; subst ha; subst hb
      exact le_of_lt hlt
    · rw [if_neg hji] at ha
      by_cases h1 : (j - 1) / 2 = p
      · rw [if_pos h1] at hb; injection hb with hb; subst hb
        exact le_trans (le_of_lt hlt) (h.1 j hj hji a y ha (by rw [h1]; exact hy))
      · rw [if_neg h1] at hb
        by_cases h2 : (j - 1) / 2 = i
        · rw [if_pos h2] at hb; injection hb with hb; subst hb
          exact h.2 j a y hi hj h2 ha (by rw [← hp]; exact hy)
        · rw [if_neg h2] at hb
          exact h.1 j hj hji a b ha hb
  · intro c a z hp0 hc hcp ha hz
    rw [sw_get hx hy] at ha hz
    have e1 : ¬ (p - 1) / 2 = p := by omega
    have e2 : ¬ (p - 1) / 2 = i := by omega
    rw [if_neg e1, if_neg e2] at hz
    have hpok : le z y := h.1 p hp0 (by omega) y z hy hz
    by_cases h1 : c = p
    · omega
    · rw [if_neg h1] at ha
      by_cases h2 : c = i
      · rw [if_pos h2] at ha; injection ha with ha; subst ha; exact hpok
      · rw [if_neg h2] at ha
        exact le_trans hpok (h.1 c hc h2 a y ha (by rw [hcp]; exact hy))
/-- a heap from s on but for one place, which may be greater than those below it -/
def Down (L : List En) (s i : Nat) : Prop := (∀ j, 0 < j → s ≤ (j - 1) / 2 → (j - 1) / 2 ≠ i → ok L j) ∧ (∀ c x z, 0 < i → s ≤ (i - 1) / 2 → 0 < c → (c - 1) / 2 = i → L[c]? = some x → L[(i - 1) / 2]? = some z → le z x)
theorem down_start {L : List En} {s : Nat} (h : From L (s + 1)) : Down L s s :=
  ⟨fun j hj h1 h2 => h j hj (by omega), fun c x z h1 h2 => by omega⟩
theorem down_end {L : List En} {s i : Nat} (h : Down L s i) (h2 : ∀ c x y, (c = 2 * i + 1 ∨ c = 2 * i + 2) → L[c]? = some x → L[i]? = some y → le y x) : From L s := by
  intro j hj hs
  by_cases he : (j - 1) / 2 = i
  · intro x y hx hy
    rw [he] at hy
    exact h2 j x y (by omega) hx hy
  · exact h.1 j hj hs he
theorem down_step {L : List En} {s i k : Nat} {x y : En} (h : Down L s i) (hs : s ≤ i) (hk : k = 2 * i + 1 ∨ k = 2 * i + 2) (hx : L[i]? = some x) (hy : L[k]? = some y) (hlt : le y x) (hle : ∀ c z, (c = 2 * i + 1 ∨ c = 2 * i + 2) → L[c]? = some z → le y z) : Down (sw L i k x y) s k := by
  have hki : (k - 1) / 2 = i := by omega
  constructor
  · intro j hj h1 h2 a b ha hb
    rw [sw_get hx hy] at ha hb
    rw [if_neg h2] at hb
    by_cases hjk : j = k
    · subst hjk
      rw [if_pos rfl] at ha; injection ha with ha; subst ha
      rw [if_pos hki] at hb; injection hb with hb; subst hb
      exact hlt
    · rw [if_neg hjk] at ha
      by_cases hji : j = i
      · subst hji
        rw [if_pos rfl] at ha; injection ha with ha; subst ha
        rw [if_neg (by omega)] at hb
        exact h.2 k y b hj h1 (by omega) hki hy hb
      · rw [if_neg hji] at ha
        by_cases h3 : (j - 1) / 2 = i
        · rw [if_pos h3] at hb; injection hb with hb; subst hb
          exact hle j a (by omega) ha
        · rw [if_neg h3] at hb
          exact h.1 j hj h1 h3 a b ha hb
  · intro c a z hk0 hsk hc hck ha hz
    rw [sw_get hx hy] at ha hz
    rw [if_neg (by omega), if_pos hki] at hz
    injection hz with hz; subst hz
    rw [if_neg (by omega), if_neg (by omega)] at ha
    exact h.1 c hc (by omega) (by omega) a y ha (by rw [hck]; exact hy)
/-- what Pop leaves ahead of down -/
theorem pop_split {L : List En} {r z : En} {n : Nat} (hn : L.length = n + 1) (hr : L[0]? = some r) (hz : L[n]? = some z) (h : IsHeap L) : ((L.set 0 z).take n).length = n ∧ From ((L.set 0 z).take n) 1 ∧ L.Perm (r :: (L.set 0 z).take n) := by
  refine ⟨by simp [hn], ?_, ?_⟩
  · intro j hj h1 x y hx hy
    rw [List.getElem?_take] at hx hy
    split at hx
    · split at hy
      · rw [List.getElem?_set_ne (by omega)] at hx hy
        exact h j hj (Nat.zero_le _) x y hx hy
      · simp at hy
    · simp at hx
  · match L, hn, hr, hz with
    | a :: t, hn, hr, hz =>
      simp at hr; subst hr
      simp only [List.set_cons_zero]
      rcases n with _ | n
      · have : t = [] := by simpa using hn
        subst this; simp
      · rw [List.take_succ_cons]
        refine (List.perm_cons _).2 ?_
        rw [List.getElem?_cons_succ] at hz
        have hlt : t.length = n + 1 := by simpa using hn
        have h1 : t = t.take n ++ [z] := by
          obtain ⟨h2, e2⟩ := List.getElem?_eq_some_iff.1 hz
          have h4 := List.drop_eq_getElem_cons h2
          rw [e2, show t.drop (n + 1) = [] from List.drop_eq_nil_of_le (by omega)] at h4
          have h5 := (List.take_append_drop n t).symm
          rwa [h4] at h5
        have h3 := List.perm_append_comm (l₁ := t.take n) (l₂ := [z])
        rw [← h1] at h3
        exact h3
end Go.Proofs.Ytknmpfimnbenjaa.HeapP
