/-
  The zones that greedy cuts, plainly: side by side, none too heavy, none with room for the next floor; the heaviest weighs the least that may be.
-/
import Derived.Test.YtalecppofemcnaaZonePlain
namespace Go.Proofs.Ytalecppofemcnaa.ZoneP
set_option linter.unusedVariables false
/-- the zones after n floors -/
def cl (l : List Int) (M : Int) (n : Nat) : List (Nat × Nat) := (cs l M n).1 ++ [((cs l M n).2, n)]
theorem cl_length (l : List Int) (M : Int) (n : Nat) : (cl l M n).length = (cs l M n).1.length + 1 := by simp [cl]
theorem cl_new {l : List Int} {M : Int} {n : Nat} (h : (gz l M n).2 + wt l n > M) : cl l M (n + 1) = cl l M n ++ [(n, n + 1)] := by
  simp only [cl, cs, h, if_true]
theorem cl_old {l : List Int} {M : Int} {n : Nat} (h : ¬ (gz l M n).2 + wt l n > M) : cl l M (n + 1) = (cl l M n).set ((cl l M n).length - 1) ((cs l M n).2, n + 1) := by
  simp only [cl, cs, h, if_false]
  simp
theorem cl_last (l : List Int) (M : Int) (n : Nat) : (cl l M n)[(cl l M n).length - 1]? = some ((cs l M n).2, n) := by
  simp [cl]
/-- what is so of the zones -/
def Zs (l : List Int) (M : Int) (n : Nat) (L : List (Nat × Nat)) : Prop :=
  ∀ (i a b : Nat), L[i]? = some (a, b) → a < b ∧ b ≤ n ∧ pre l b - pre l a ≤ M ∧ (i = 0 → a = 0) ∧ (i + 1 = L.length → b = n) ∧
    (∀ a' b', L[i + 1]? = some (a', b') → a' = b ∧ M < pre l b - pre l a + wt l a')
theorem cl_zs {l : List Int} {M : Int} (h : Good l) (h0 : 0 ≤ M) : ∀ n, (∀ i, i < n → wt l i ≤ M) → 0 < n → Zs l M n (cl l M n)
  | 0, _, hn => by omega
  | n + 1, hM, _ => by
    obtain ⟨c1, c2, c3, c4, c5, c6⟩ := cs_facts h h0 n (fun i hi => hM i (by omega))
    obtain ⟨_, _, r1, r2⟩ := gz_range h h0 n (fun i hi => hM i (by omega))
    have hMn := hM n (by omega)
    rcases Nat.eq_zero_or_pos n with hz | hz
    · subst hz
      have he : cl l M (0 + 1) = [(0, 1)] := by
        rw [cl_old (by simp only [gz]; omega)]; rfl
      rw [he]
      intro i a b hi
      match i with
      | 0 =>
        simp at hi
        obtain ⟨rfl, rfl⟩ := hi
        refine ⟨by omega, by omega, by simp only [pre]; omega, fun _ => rfl, fun _ => rfl, fun a' b' h' => by simp at h'⟩
      | i + 1 => simp at hi
    · have ih := cl_zs h h0 n (fun i hi => hM i (by omega)) hz
      have hl := cl_last l M n
      have hlen := cl_length l M n
      generalize hL : cl l M n = L at *
      by_cases hw : (gz l M n).2 + wt l n > M
      · rw [cl_new hw, hL]
        intro i a b hi
        rcases Nat.lt_or_ge i L.length with hlt | hge
        · rw [List.getElem?_append_left hlt] at hi
          obtain ⟨q1, q2, q3, q4, q5, q6⟩ := ih i a b hi
          refine ⟨q1, by omega, q3, q4, fun hh => by simp at hh; omega, fun a' b' h' => ?_⟩
          rcases Nat.lt_or_ge (i + 1) L.length with hlt2 | hge2
          · rw [List.getElem?_append_left hlt2] at h'
            exact q6 a' b' h'
          · have hi2 : i + 1 = L.length := by omega
            rw [List.getElem?_append_right hge2, hi2] at h'
            simp at h'
            obtain ⟨rfl, rfl⟩ := h'
            have hbn := q5 hi2
            subst hbn
            rw [show L.length - 1 = i by omega, hi] at hl
            have := Option.some.inj hl
            simp only [Prod.mk.injEq, and_true] at this
            subst this
            exact ⟨rfl, by omega⟩
        · have hi2 : i = L.length := by
            have := (List.getElem?_eq_some_iff.1 hi).1
            simp at this; omega
          subst hi2
          rw [List.getElem?_append_right (Nat.le_refl _)] at hi
          simp at hi
          obtain ⟨rfl, rfl⟩ := hi
          refine ⟨by omega, by omega, by simp only [pre]; omega, fun hh => by omega, fun _ => rfl, fun a' b' h' => ?_⟩
          rw [List.getElem?_eq_none (by simp)] at h'
          cases h'
      · rw [cl_old hw, hL]
        have hlast := ih _ _ _ hl
        intro i a b hi
        rcases Nat.lt_or_ge i (L.length - 1) with hlt | hge
        · rw [List.getElem?_set_ne (by omega)] at hi
          obtain ⟨q1, q2, q3, q4, q5, q6⟩ := ih i a b hi
          refine ⟨q1, by omega, q3, q4, fun hh => by simp at hh; omega, fun a' b' h' => ?_⟩
          rcases Nat.lt_or_ge (i + 1) (L.length - 1) with hlt2 | hge2
          · rw [List.getElem?_set_ne (by omega)] at h'
            exact q6 a' b' h'
          · have hi2 : i + 1 = L.length - 1 := by omega
            rw [hi2, List.getElem?_set_self (by omega)] at h'
            simp at h'
            obtain ⟨rfl, rfl⟩ := h'
            exact q6 _ n (by rw [hi2]; exact hl)
        · have hi2 : i = L.length - 1 := by
            have := (List.getElem?_eq_some_iff.1 hi).1
            simp at this; omega
          subst hi2
          rw [List.getElem?_set_self (by omega)] at hi
          simp at hi
          obtain ⟨rfl, rfl⟩ := hi
          refine ⟨by omega, by omega, by simp only [pre]; omega, hlast.2.2.2.1, fun _ => rfl, fun a' b' h' => ?_⟩
          rw [List.getElem?_eq_none (by simp; omega)] at h'
          cases h'
theorem Zs.chain {l : List Int} {M : Int} {n : Nat} {L : List (Nat × Nat)} (h : Zs l M n L) {i a b : Nat} (hi : L[i]? = some (a, b)) : ∀ j a' b', i < j → L[j]? = some (a', b') → b ≤ a'
  | 0, a', b', hj, _ => by omega
  | j + 1, a', b', hij, hj => by
    rcases Nat.lt_or_ge i j with hlt | hge
    · have hjl : j < L.length := by have := (List.getElem?_eq_some_iff.1 hj).1; omega
      have hq : L[j]? = some (L[j].1, L[j].2) := List.getElem?_eq_getElem hjl
      have h1 := Zs.chain h hi j _ _ hlt hq
      have h2 := h j _ _ hq
      have h3 := (h2.2.2.2.2.2 a' b' hj).1
      omega
    · obtain rfl : i = j := by omega
      have := ((h i a b hi).2.2.2.2.2 a' b' hj).1
      omega
/-- if all zones weigh at most M', so many zones of M' do -/
theorem Zs.feas {l : List Int} {M M' : Int} {n : Nat} {L : List (Nat × Nat)} (h : Zs l M n L) (hw : ∀ (i a b : Nat), L[i]? = some (a, b) → pre l b - pre l a ≤ M') : ∀ (i a b : Nat), L[i]? = some (a, b) → F l M' i b
  | 0, a, b, hi => by
    have h1 := hw 0 a b hi
    have h2 := (h 0 a b hi).2.2.2.1 rfl
    subst h2
    simp only [pre] at h1
    show pre l b ≤ M'
    omega
  | i + 1, a, b, hi => by
    have hil : i < L.length := by have := (List.getElem?_eq_some_iff.1 hi).1; omega
    have hq : L[i]? = some (L[i].1, L[i].2) := List.getElem?_eq_getElem hil
    have ih := Zs.feas h hw i _ _ hq
    have h3 := ((h i _ _ hq).2.2.2.2.2 a b hi).1
    have h1 := hw (i + 1) a b hi
    rw [← h3] at ih
    exact .inr ⟨a, (h (i + 1) a b hi).1, ih, h1⟩
theorem cl_count {l : List Int} (h : Good l) {k : Nat} (hk : 1 ≤ k) (hl : 1 ≤ l.length) : (cl l (lst l k) l.length).length ≤ k ∧ (cl l (lst l k) l.length).length ≤ l.length := by
  have hM := lst_elem h k
  have h0 := lst_nonneg h k hl
  have hF : F l (lst l k) (min k l.length - 1) l.length := (best_le _ _).1 (Int.le_refl _)
  have h1 := gz_le h hF
  obtain ⟨_, _, _, c4, _⟩ := cs_facts h h0 l.length hM
  rw [cl_length, ← c4]
  omega
theorem cl_worst {l : List Int} (h : Good l) {k : Nat} (hk : 1 ≤ k) (hl : 1 ≤ l.length) {m : Int} (hw : ∀ (i a b : Nat), (cl l (lst l k) l.length)[i]? = some (a, b) → pre l b - pre l a ≤ m) : lst l k ≤ m := by
  have hM := lst_elem h k
  have h0 := lst_nonneg h k hl
  have hz := cl_zs h h0 l.length hM (by omega)
  have hc := cl_count h hk hl
  have hf := hz.feas hw _ _ _ (cl_last _ _ _)
  unfold lst
  rw [best_le]
  exact F_more hf _ (by omega)
end Go.Proofs.Ytalecppofemcnaa.ZoneP
