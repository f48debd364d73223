/-
  Zones, plainly: greedy cuts need the fewest zones; the least greatest weight by all cuts is the least that greedy cuts keep to.
-/
import Derived.Test.YtalecppofemcnaaBase
namespace Go.Proofs.Ytalecppofemcnaa.ZoneP
set_option linter.unusedVariables false
/-- the weight of a floor -/
def wt (l : List Int) (i : Nat) : Int := l.getD i 0
/-- the weight of the first n floors -/
def pre (l : List Int) : Nat → Int
  | 0 => 0
  | n + 1 => pre l n + wt l n
/-- greedy: how many zones, and what the last one weighs, after n floors -/
def gz (l : List Int) (M : Int) : Nat → Nat × Int
  | 0 => (1, 0)
  | n + 1 => if (gz l M n).2 + wt l n > M then ((gz l M n).1 + 1, wt l n) else ((gz l M n).1, (gz l M n).2 + wt l n)
/-- n floors can be cut into z + 1 zones of at most M each -/
def F (l : List Int) (M : Int) : Nat → Nat → Prop
  | 0, n => pre l n ≤ M
  | z + 1, n => F l M z n ∨ ∃ m, m < n ∧ F l M z m ∧ pre l n - pre l m ≤ M
def bmin (b : Nat → Int) (l : List Int) (n : Nat) : Nat → Int
  | 0 => b n
  | j + 1 => min (bmin b l n j) (max (pre l n - pre l (n - 1 - j)) (b (n - 1 - j)))
/-- as the document has it: in rounds -/
def best (l : List Int) : Nat → Nat → Int
  | 0, n => pre l n
  | z + 1, n => bmin (best l z) l n n
theorem bmin_le {b : Nat → Int} {l : List Int} {n : Nat} {M : Int} : ∀ j, j ≤ n → (bmin b l n j ≤ M ↔ b n ≤ M ∨ ∃ m, n ≤ m + j ∧ m < n ∧ b m ≤ M ∧ pre l n - pre l m ≤ M)
  | 0, _ => by
    simp only [bmin]
    constructor
    · exact .inl
    · rintro (h | ⟨m, h1, h2, _⟩)
      · exact h
      · omega
  | j + 1, hj => by
    have ih := bmin_le (b := b) (l := l) (n := n) (M := M) j (by omega)
    simp only [bmin]
    rw [show (min (bmin b l n j) (max (pre l n - pre l (n - 1 - j)) (b (n - 1 - j))) ≤ M) ↔ (bmin b l n j ≤ M ∨ (pre l n - pre l (n - 1 - j) ≤ M ∧ b (n - 1 - j) ≤ M)) by omega, ih]
    constructor
    · rintro ((h | ⟨m, h1, h2, h3⟩) | ⟨h1, h2⟩)
      · exact .inl h
      · exact .inr ⟨m, by omega, h2, h3⟩
      · exact .inr ⟨n - 1 - j, by omega, by omega, h2, h1⟩
    · rintro (h | ⟨m, h1, h2, h3, h4⟩)
      · exact .inl (.inl h)
      · by_cases he : m = n - 1 - j
        · subst he; exact .inr ⟨h4, h3⟩
        · exact .inl (.inr ⟨m, by omega, h2, h3, h4⟩)
theorem best_le {l : List Int} {M : Int} : ∀ z n, best l z n ≤ M ↔ F l M z n
  | 0, n => Iff.rfl
  | z + 1, n => by
    simp only [best, F]
    rw [bmin_le n (Nat.le_refl _), best_le z n]
    constructor
    · rintro (h | ⟨m, h1, h2, h3, h4⟩)
      · exact .inl h
      · exact .inr ⟨m, h2, (best_le z m).1 h3, h4⟩
    · rintro (h | ⟨m, h2, h3, h4⟩)
      · exact .inl h
      · exact .inr ⟨m, by omega, h2, (best_le z m).2 h3, h4⟩
theorem F_mono {l : List Int} {M M' : Int} (h : M ≤ M') : ∀ z n, F l M z n → F l M' z n
  | 0, n, hf => Int.le_trans hf h
  | z + 1, n, hf => by
    rcases hf with hf | ⟨m, h1, h2, h3⟩
    · exact .inl (F_mono h z n hf)
    · exact .inr ⟨m, h1, F_mono h z m h2, by omega⟩
theorem F_more {l : List Int} {M : Int} {n z : Nat} (h : F l M z n) : ∀ z', z ≤ z' → F l M z' n
  | 0, hz => by obtain rfl : z = 0 := by omega
                exact h
  | z' + 1, hz => by
    by_cases he : z = z' + 1
    · subst he; exact h
    · exact .inl (F_more h z' (by omega))
/-- weights that may be -/
def Good (l : List Int) : Prop := ∀ i, 0 ≤ wt l i
theorem pre_mono {l : List Int} (h : Good l) {m : Nat} : ∀ n, m ≤ n → pre l m ≤ pre l n
  | 0, hm => by obtain rfl : m = 0 := by omega
                exact Int.le_refl _
  | n + 1, hm => by
    by_cases he : m = n + 1
    · subst he; exact Int.le_refl _
    · have := pre_mono h n (show m ≤ n by omega)
      have := h n
      simp only [pre]; omega
theorem pre_elem {l : List Int} (h : Good l) {m i n : Nat} (h1 : m ≤ i) (h2 : i < n) : wt l i ≤ pre l n - pre l m := by
  have a := pre_mono h (m := i + 1) n (by omega)
  have b := pre_mono h (m := m) i h1
  simp only [pre] at a; omega
theorem F_elem {l : List Int} (h : Good l) {M : Int} : ∀ z n, F l M z n → ∀ i, i < n → wt l i ≤ M
  | 0, n, hf, i, hi => by have := pre_elem h (Nat.zero_le i) hi; simp only [pre] at this; simp only [F] at hf; omega
  | z + 1, n, hf, i, hi => by
    rcases hf with hf | ⟨m, h1, h2, h3⟩
    · exact F_elem h z n hf i hi
    · rcases Nat.lt_or_ge i m with hlt | hge
      · exact F_elem h z m h2 i hlt
      · have := pre_elem h hge hi; omega
/-- greedy never keeps more than M, if no floor weighs more -/
theorem gz_range {l : List Int} (h : Good l) {M : Int} (h0 : 0 ≤ M) : ∀ n, (∀ i, i < n → wt l i ≤ M) → 1 ≤ (gz l M n).1 ∧ (gz l M n).1 ≤ n + 1 ∧ 0 ≤ (gz l M n).2 ∧ (gz l M n).2 ≤ M
  | 0, _ => by simp [gz]; exact h0
  | n + 1, hM => by
    obtain ⟨a, b, c, d⟩ := gz_range h h0 n (fun i hi => hM i (by omega))
    have := h n
    have := hM n (by omega)
    simp only [gz]; split <;> simp only [] <;> omega
theorem gz_first {l : List Int} {M : Int} (h : Good l) : ∀ n, pre l n ≤ M → gz l M n = (1, pre l n)
  | 0, _ => rfl
  | n + 1, hp => by
    have := h n
    simp only [pre] at hp
    have ih := gz_first (M := M) h n (by omega)
    simp only [gz, ih, pre]
    rw [if_neg (by omega)]
theorem gz_step {l : List Int} {M : Int} (h : Good l) {m : Nat} : ∀ n, m ≤ n → pre l n - pre l m ≤ M →
    ((gz l M n).1 = (gz l M m).1 ∧ (gz l M n).2 = (gz l M m).2 + (pre l n - pre l m)) ∨ ((gz l M n).1 = (gz l M m).1 + 1 ∧ (gz l M n).2 ≤ pre l n - pre l m)
  | 0, hm, _ => by obtain rfl : m = 0 := by omega
                   exact .inl ⟨rfl, by omega⟩
  | n + 1, hm, hp => by
    by_cases he : m = n + 1
    · subst he; exact .inl ⟨rfl, by omega⟩
    · have hw := h n
      have hpm := pre_mono h (m := m) n (by omega)
      simp only [pre] at hp
      rcases gz_step (m := m) (M := M) h n (by omega) (by omega) with ⟨a, b⟩ | ⟨a, b⟩
      · simp only [gz, pre]
        split
        · right; simp only []; omega
        · left; simp only []; omega
      · simp only [gz, pre]
        rw [if_neg (by omega)]
        right; simp only []; omega
theorem gz_le {l : List Int} {M : Int} (h : Good l) {z n : Nat} (hf : F l M z n) : (gz l M n).1 ≤ z + 1 := by
  induction z generalizing n with
  | zero => rw [gz_first h n hf]; simp
  | succ z ih =>
    rcases hf with hf | ⟨m, h1, h2, h3⟩
    · have := ih hf; omega
    · have := ih h2
      rcases gz_step h n (by omega) h3 with ⟨a, _⟩ | ⟨a, _⟩ <;> omega
/-- where greedy's last zone begins, and what it has closed -/
def cs (l : List Int) (M : Int) : Nat → List (Nat × Nat) × Nat
  | 0 => ([], 0)
  | n + 1 => if (gz l M n).2 + wt l n > M then ((cs l M n).1 ++ [((cs l M n).2, n)], n) else cs l M n
theorem cs_facts {l : List Int} {M : Int} (h : Good l) (h0 : 0 ≤ M) : ∀ n, (∀ i, i < n → wt l i ≤ M) →
    (cs l M n).2 ≤ n ∧ (0 < n → (cs l M n).2 < n) ∧ (gz l M n).2 = pre l n - pre l (cs l M n).2 ∧ (gz l M n).1 = (cs l M n).1.length + 1 ∧ ((cs l M n).1 = [] → (cs l M n).2 = 0) ∧ ((cs l M n).1 ≠ [] → F l M ((cs l M n).1.length - 1) (cs l M n).2)
  | 0, _ => by simp [cs, gz, pre]
  | n + 1, hM => by
    obtain ⟨a, a', b, c, d, e⟩ := cs_facts h h0 n (fun i hi => hM i (by omega))
    obtain ⟨_, _, r1, r2⟩ := gz_range h h0 n (fun i hi => hM i (by omega))
    simp only [cs, gz, pre]
    have hM' := hM n (by omega)
    have hn0 : n = 0 → (gz l M n).2 = 0 := by intro h; subst h; rfl
    split
    · have hn : 0 < n := by
        rcases Nat.eq_zero_or_pos n with hz | hz
        · have := hn0 hz; omega
        · exact hz
      refine ⟨by simp, by simp, by simp only []; omega, by simp [c], by simp, fun _ => ?_⟩
      simp only [List.length_append, List.length_cons, List.length_nil, Nat.zero_add, Nat.add_sub_cancel]
      by_cases hd : (cs l M n).1 = []
      · have := d hd
        rw [this] at b
        simp only [pre] at b
        rw [hd]
        show pre l n ≤ M
        omega
      · have := e hd
        have hl : (cs l M n).1.length ≠ 0 := by simpa using hd
        obtain ⟨q, hq⟩ : ∃ q, (cs l M n).1.length = q + 1 := ⟨(cs l M n).1.length - 1, by omega⟩
        rw [hq] at this ⊢
        exact .inr ⟨(cs l M n).2, a' hn, this, by omega⟩
    · refine ⟨by omega, fun _ => by omega, by omega, c, d, e⟩
theorem gz_F {l : List Int} {M : Int} (h : Good l) (h0 : 0 ≤ M) {n : Nat} (hM : ∀ i, i < n → wt l i ≤ M) {z : Nat} (hz : (gz l M n).1 ≤ z + 1) : F l M z n := by
  obtain ⟨a, a', b, c, d, e⟩ := cs_facts h h0 n hM
  obtain ⟨_, _, r1, r2⟩ := gz_range h h0 n hM
  by_cases hd : (cs l M n).1 = []
  · have h2 := d hd
    rw [h2] at b
    simp only [pre] at b
    exact F_more (z := 0) (show pre l n ≤ M by omega) z (Nat.zero_le _)
  · have he := e hd
    have hl : (cs l M n).1.length ≠ 0 := by simpa using hd
    have hn : 0 < n := by
      rcases Nat.eq_zero_or_pos n with hz0 | hz0
      · subst hz0; simp [cs] at hd
      · exact hz0
    obtain ⟨q, hq⟩ : ∃ q, (cs l M n).1.length = q + 1 := ⟨(cs l M n).1.length - 1, by omega⟩
    rw [hq] at he c
    exact F_more (z := q + 1) (.inr ⟨_, a' hn, he, by omega⟩) z (by omega)
theorem gz_iff {l : List Int} {M : Int} (h : Good l) (h0 : 0 ≤ M) {n z : Nat} (hM : ∀ i, i < n → wt l i ≤ M) : F l M z n ↔ (gz l M n).1 ≤ z + 1 :=
  ⟨gz_le h, gz_F h h0 hM⟩
/-- the least -/
def lst (l : List Int) (k : Nat) : Int := best l (min k l.length - 1) l.length
theorem lst_le {l : List Int} (h : Good l) {k : Nat} (hk : 1 ≤ k) (hl : 1 ≤ l.length) {M : Int} (h0 : 0 ≤ M) (hM : ∀ i, i < l.length → wt l i ≤ M) : lst l k ≤ M ↔ (gz l M l.length).1 ≤ k := by
  unfold lst
  rw [best_le, gz_iff h h0 hM]
  have : (gz l M l.length).1 ≤ l.length := by
    obtain ⟨n, hn⟩ : ∃ n, l.length = n + 1 := ⟨l.length - 1, by omega⟩
    have hstep : ∀ n, (∀ i, i < n + 1 → wt l i ≤ M) → (gz l M (n + 1)).1 ≤ n + 1 := by
      intro n
      induction n with
      | zero =>
        intro hM
        have := hM 0 (by omega)
        have he : gz l M (0 + 1) = if (0 : Int) + wt l 0 > M then (1 + 1, wt l 0) else (1, 0 + wt l 0) := rfl
        rw [he, if_neg (by omega)]
        simp
      | succ n ih =>
        intro hM
        have := ih (fun i hi => hM i (by omega))
        rw [gz]; split <;> simp only [] <;> omega
    rw [hn] at hM ⊢
    exact hstep n hM
  omega
theorem lst_elem {l : List Int} (h : Good l) (k : Nat) : ∀ i, i < l.length → wt l i ≤ lst l k :=
  F_elem h _ _ ((best_le _ _).1 (Int.le_refl _))
theorem lst_nonneg {l : List Int} (h : Good l) (k : Nat) (hl : 1 ≤ l.length) : 0 ≤ lst l k := by
  have a := lst_elem h k 0 (by omega)
  have b := h 0
  omega
theorem lst_sum {l : List Int} (h : Good l) (k : Nat) : lst l k ≤ pre l l.length := by
  unfold lst
  rw [best_le]
  exact F_more (z := 0) (Int.le_refl _) _ (Nat.zero_le _)
end Go.Proofs.Ytalecppofemcnaa.ZoneP
