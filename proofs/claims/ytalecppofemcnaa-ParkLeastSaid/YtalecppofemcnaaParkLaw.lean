/-
  Parking, plainly: the table is the least that any floors cost.
-/
import Derived.Test.YtalecppofemcnaaParkRefC
namespace Go.Proofs.Ytalecppofemcnaa.ParkP
set_option linter.unusedVariables false
set_option linter.unusedSimpArgs false
/-- what the first m floors of a span cost, by a way far -/
def sw (l : List Int) (d : Nat → Int) : Nat → Int
  | 0 => 0
  | m + 1 => sw l d m + wt l m * d m
theorem sw_congr {l : List Int} {d d' : Nat → Int} : ∀ m, (∀ i, i < m → d i = d' i) → sw l d m = sw l d' m
  | 0, _ => rfl
  | m + 1, h => by simp only [sw]; rw [sw_congr m (fun i hi => h i (by omega)), h m (by omega)]
theorem sw_mono {l : List Int} (hok : okP l = true) {d d' : Nat → Int} : ∀ m, (∀ i, i < m → d i ≤ d' i) → sw l d m ≤ sw l d' m
  | 0, _ => Int.le_refl _
  | m + 1, h => by
    have ih := sw_mono hok m (fun i hi => h i (by omega))
    have := Int.mul_le_mul_of_nonneg_left (h m (by omega)) (okP_wt hok m).1
    simp only [sw]; omega
theorem sw_oc (l : List Int) (f u : Nat) (d : Nat → Int) : ∀ k, (∀ i, u ≤ i → i < u + k → d i = far (i : Int) f) → sw l d (u + k) = sw l d u + oc l u f k
  | 0, _ => by simp [oc]
  | k + 1, h => by
    have ih := sw_oc l f u d k (fun i h1 h2 => h i h1 (by omega))
    rw [← Nat.add_assoc]
    simp only [sw, oc]
    rw [ih, h (u + k) (by omega) (by omega)]
    omega
theorem cs_sw (l F : List Int) : ∀ m, cs l F m = sw l (fun i => pn l.length F i F.length) m
  | 0 => rfl
  | m + 1 => by simp only [cs, sw]; rw [cs_sw l F m]
/-- the best floor of a span costs no more than any of it -/
theorem og_le {l : List Int} (hok : okP l = true) (a b : Nat) (hb : b ≤ 128) (hab : a ≤ b) : ∀ j, a + j ≤ b → ∀ f, a ≤ f → f < a + j → (og l a b j).2 ≤ oc l a f (b - a)
  | 0, _, f, h1, h2 => by omega
  | j + 1, hj, f, h1, h2 => by
    have h3 := oc_range hok a (a + j) (by omega) (b - a) (by omega)
    have hr := og_range hok a b hb hab j (by omega)
    simp only [og]
    split
    · rename_i hc
      simp only []
      by_cases hf : f = a + j
      · rw [hf]; exact Int.le_refl _
      · have ih := og_le hok a b hb hab j (by omega) f h1 (by omega)
        have := (hr.2.2.2.2 (by omega)).1
        omega
    · rename_i hc
      by_cases hf : f = a + j
      · rw [hf]; omega
      · exact og_le hok a b hb hab j (by omega) f h1 (by omega)
theorem one_le {l : List Int} (hok : okP l = true) {a b f : Nat} (hb : b ≤ 128) (h1 : a ≤ f) (h2 : f < b) : (one l a b).2 ≤ oc l a f (b - a) :=
  og_le hok a b hb (by omega) (b - a) (by omega) f h1 (by omega)
/-- .. and it costs what is told -/
theorem og_is {l : List Int} (a b : Nat) : ∀ j, 0 < j → (og l a b j).2 ≥ 0 → (og l a b j).2 = oc l a (og l a b j).1 (b - a)
  | 0, h, _ => by omega
  | j + 1, _, hp => by
    simp only [og] at hp ⊢
    split at hp
    · rename_i hc; rw [if_pos hc]
    · rename_i hc
      rw [if_neg hc]
      rcases Nat.eq_zero_or_pos j with h0 | h0
      · subst h0; simp [og] at hc
      · exact og_is a b j h0 hp
/-- the least of the ways: no more than each -/
theorem tm_le_way {l : List Int} (hok : okP l = true) (b : Nat → Int) (n : Nat) (hn : n ≤ 128) : ∀ m, m ≤ n → (∀ x, 1 ≤ x → x ≤ m → 0 ≤ b (n - x) → 0 ≤ (tm l b n m).1 ∧ (tm l b n m).1 ≤ b (n - x) + (one l (n - x) n).2)
  | 0, _, x, h1, h2, _ => by omega
  | m + 1, hm, x, h1, h2, h3 => by
    have ih := tm_le_way hok b n hn m (by omega)
    obtain ⟨_, _, o1, o2, o3⟩ := og_range hok (n - (m + 1)) n hn (by omega) (n - (n - (m + 1))) (by omega)
    have o4 : 0 ≤ (one l (n - (m + 1)) n).2 := (o3 (by omega)).1
    simp only [tm]
    by_cases hx : x = m + 1
    · subst hx
      rw [if_neg (by omega)]
      split
      · simp only []; omega
      · rename_i hc; omega
    · have := ih x h1 (by omega) h3
      split
      · exact this
      · split
        · rename_i hc; simp only []; omega
        · exact this
theorem tc_le_way {l : List Int} (hok : okP l = true) {c u m : Nat} (hm : m ≤ 128) (hu : u < m) (h : 0 ≤ tc l c u) : 0 ≤ tc l (c + 1) m ∧ tc l (c + 1) m ≤ tc l c u + (one l u m).2 := by
  have := tm_le_way hok (tc l c) m hm m (Nat.le_refl _) (m - u) (by omega) (by omega) (by rw [show m - (m - u) = u by omega]; exact h)
  rw [show m - (m - u) = u by omega] at this
  simp only [tc, if_neg (show ¬ m = 0 by omega)]
  exact this
/-- how far it is to the nearest of a row of floors; the first one is the last floor -/
def nd : List Nat → Nat → Int
  | [], i => 1000000
  | f :: F, i => min (far (i : Int) f) (nd F i)
/-- floors that fall -/
def falls : List Nat → Nat → Prop
  | [], _ => True
  | f :: F, m => f < m ∧ falls F f
theorem nd_far {F : List Nat} : ∀ {m i : Nat}, falls F m → m ≤ i → ∀ f, falls F f → f ≤ i → True := fun _ _ _ _ _ => trivial
/-- LEAST: any floors that fall cost no less than the table -/
theorem least {l : List Int} (hok : okP l = true) : ∀ (F : List Nat) (m : Nat), m ≤ 128 → F ≠ [] → falls F m → 0 ≤ tc l F.length m ∧ tc l F.length m ≤ sw l (nd F) m
  | [], m, _, h, _ => absurd rfl h
  | [f], m, hm, _, ⟨hf, _⟩ => by
    have h := tc_le_way hok (c := 0) (u := 0) hm (by omega) (by simp [tc])
    have h2 := one_le hok hm (Nat.zero_le f) hf
    have h3 := sw_oc l f 0 (nd [f]) m (fun i _ h => by simp only [nd]; unfold far; omega)
    simp only [sw, Nat.zero_add, Nat.sub_zero] at h3 h2
    rw [h3]
    simp only [List.length_cons, List.length_nil]
    have : tc l 0 0 = 0 := rfl
    omega
  | f :: g :: F, m, hm, _, ⟨hf, hg, hF⟩ => by
    obtain ⟨u, hu⟩ : ∃ u, u = (g + f) / 2 + 1 := ⟨_, rfl⟩
    have hgu : g < u := by omega
    have huf : u ≤ f := by omega
    have ih := least hok (g :: F) u (by omega) (by simp) ⟨hgu, hF⟩
    have h := tc_le_way hok (c := (g :: F).length) (u := u) hm (by omega) ih.1
    have h2 := one_le hok hm huf hf
    have hlow : ∀ (F : List Nat) (g i : Nat), falls F g → g ≤ i → far (i : Int) g ≤ nd F i ∨ 1000 < i := by
      intro F
      induction F with
      | nil => intro g i _ h; simp only [nd]; unfold far; omega
      | cons x F ihF =>
        intro g i hh h
        obtain ⟨h1, h2⟩ := hh
        rcases ihF x i h2 (by omega) with h3 | h3
        · left; simp only [nd]; unfold far at h3 ⊢; omega
        · exact .inr h3
    have h3 := sw_oc l f u (nd (f :: g :: F)) (m - u) (fun i h4 h5 => by
      have := hlow F g i hF (by omega)
      simp only [nd]; unfold far at this ⊢; omega)
    have h4 : sw l (nd (g :: F)) u = sw l (nd (f :: g :: F)) u := sw_congr u (fun i hi => by
      simp only [nd]; unfold far; omega)
    rw [show u + (m - u) = m by omega] at h3
    rw [h3, ← h4]
    simp only [List.length_cons] at h ih ⊢
    omega
end Go.Proofs.Ytalecppofemcnaa.ParkP
