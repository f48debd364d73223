/-
  Parking, plainly: the floors that are told.
-/
import Derived.Test.YtalecppofemcnaaParkLaw
namespace Go.Proofs.Ytalecppofemcnaa.ParkP
set_option linter.unusedVariables false
set_option linter.unusedSimpArgs false
/-- a floor is laid into floors that fall -/
def ins (x : Nat) : List Nat → List Nat
  | [] => [x]
  | f :: F => if f < x then x :: f :: F else if f = x then f :: F else f :: ins x F
theorem ins_nd (x i : Nat) : ∀ F, nd (ins x F) i = min (far (i : Int) x) (nd F i)
  | [] => rfl
  | f :: F => by
    have ih := ins_nd x i F
    simp only [ins]
    split
    · rfl
    · split
      · rename_i h; subst h; simp only [nd]; omega
      · simp only [nd]; rw [ih]; omega
theorem ins_falls (x : Nat) : ∀ F m, x < m → falls F m → falls (ins x F) m
  | [], m, h, _ => ⟨h, trivial⟩
  | f :: F, m, h, ⟨h1, h2⟩ => by
    simp only [ins]
    split
    · rename_i hc; exact ⟨h, hc, h2⟩
    · split
      · exact ⟨h1, h2⟩
      · exact ⟨h1, ins_falls x F f (by omega) h2⟩
theorem ins_len (x : Nat) : ∀ F, (ins x F).length ≤ F.length + 1 ∧ 0 < (ins x F).length
  | [] => by simp [ins]
  | f :: F => by
    have ih := ins_len x F
    simp only [ins]
    split
    · simp
    · split
      · simp
      · simp; omega
def srt : List Int → List Nat
  | [] => []
  | x :: G => ins x.toNat (srt G)
def nm : List Int → Nat → Int
  | [], i => 1000000
  | x :: G, i => min (far (i : Int) x) (nm G i)
theorem srt_nd (i : Nat) : ∀ G : List Int, (∀ x ∈ G, 0 ≤ x) → nd (srt G) i = nm G i
  | [], _ => rfl
  | x :: G, h => by
    simp only [srt, nm]
    rw [ins_nd, srt_nd i G (fun y hy => h y (List.mem_cons_of_mem _ hy)), show ((x.toNat : Nat) : Int) = x from Int.toNat_of_nonneg (h x List.mem_cons_self)]
theorem srt_falls (n : Nat) : ∀ G : List Int, (∀ x ∈ G, 0 ≤ x ∧ x < (n : Int)) → falls (srt G) n
  | [], _ => trivial
  | x :: G, h => ins_falls _ _ _ (by have := h x List.mem_cons_self; omega) (srt_falls n G (fun y hy => h y (List.mem_cons_of_mem _ hy)))
theorem srt_len : ∀ G : List Int, (srt G).length ≤ G.length ∧ (G ≠ [] → srt G ≠ [])
  | [] => by simp [srt]
  | x :: G => by
    have ih := (srt_len G).1
    have := ins_len x.toNat (srt G)
    refine ⟨by simp only [srt, List.length_cons]; omega, fun _ h => ?_⟩
    simp only [srt] at h
    rw [h] at this
    simp at this
theorem nm_snoc (i : Nat) (x : Int) : ∀ G, nm (G ++ [x]) i = min (nm G i) (far (i : Int) x)
  | [] => by simp only [List.nil_append, nm]; omega
  | y :: G => by simp only [List.cons_append, nm]; rw [nm_snoc i x G]; omega
theorem pn_nm (n : Nat) (G : List Int) (i : Nat) (hn : n ≤ 1000) : ∀ k, k ≤ G.length → pn n G i k = min (n : Int) (nm (G.take k) i)
  | 0, _ => by simp [pn, nm]; omega
  | k + 1, hk => by
    have ih := pn_nm n G i hn k (by omega)
    have hg : G[k]? = some (G[k]'(by omega)) := List.getElem?_eq_getElem (by omega)
    simp only [pn]
    rw [ih, gt_get hg, List.take_add_one, hg]
    simp only [Option.toList_some]
    rw [nm_snoc]
    omega
theorem nm_le {n i : Nat} (hi : i < n) : ∀ G : List Int, (∀ x ∈ G, 0 ≤ x ∧ x < (n : Int)) → G ≠ [] → nm G i ≤ n
  | [], _, h => absurd rfl h
  | x :: G, h, _ => by
    have := h x List.mem_cons_self
    simp only [nm]; unfold far; omega
theorem cs_nm {l G : List Int} (hok : okP l = true) (hin : inR l.length G = true) (hG : G ≠ []) : cs l G l.length = sw l (nm G) l.length := by
  have hn := (okP_yes hok).2.1
  rw [cs_sw]
  apply sw_congr
  intro i hi
  have h1 := pn_nm l.length G i (by omega) G.length (Nat.le_refl _)
  rw [List.take_length] at h1
  have h2 := nm_le hi G (fun x hx => by simp only [inR, List.all_eq_true, decide_eq_true_eq] at hin; exact hin x hx) hG
  show pn l.length G i G.length = nm G i
  rw [h1]; omega
/-- any floors cost no less than the table -/
theorem cs_least {l G : List Int} (hok : okP l = true) (hin : inR l.length G = true) (hG : G ≠ []) : ∃ c, 1 ≤ c ∧ c ≤ G.length ∧ 0 ≤ tc l c l.length ∧ tc l c l.length ≤ cs l G l.length := by
  have hn := (okP_yes hok).2.1
  have hin' : ∀ x ∈ G, 0 ≤ x ∧ x < (l.length : Int) := fun x hx => by simp only [inR, List.all_eq_true, decide_eq_true_eq] at hin; exact hin x hx
  have h1 := least hok (srt G) l.length hn ((srt_len G).2 hG) (srt_falls _ G hin')
  rw [cs_nm hok hin hG, ← sw_congr l.length (fun i _ => srt_nd i G (fun x hx => (hin' x hx).1))]
  refine ⟨(srt G).length, ?_, (srt_len G).1, h1.1, h1.2⟩
  have := List.length_pos_iff.2 ((srt_len G).2 hG)
  omega
/-- the best number is the first of the best -/
theorem bst_least {l : List Int} {n : Nat} (h1 : 0 ≤ tc l 1 n) : ∀ q, 0 ≤ tc l (bst l n q) n ∧ (∀ c, 0 < c → c < q → 0 ≤ tc l c n → tc l (bst l n q) n ≤ tc l c n) ∧ (∀ c, 0 < c → c < bst l n q → 0 ≤ tc l c n → tc l (bst l n q) n < tc l c n)
  | 0 => ⟨h1, fun c _ h => by omega, fun c h2 h3 => by simp [bst] at h3; omega⟩
  | q + 1 => by
    obtain ⟨a, b, d⟩ := bst_least h1 q
    simp only [bst]
    split
    · rename_i hc
      refine ⟨hc.2.1, fun c h2 h3 h4 => ?_, fun c h2 h3 h4 => ?_⟩
      · by_cases hq : c = q
        · subst hq; omega
        · have := b c h2 (by omega) h4; omega
      · have := b c h2 h3 h4; omega
    · rename_i hc
      refine ⟨a, fun c h2 h3 h4 => ?_, d⟩
      by_cases hq : c = q
      · subst hq; omega
      · exact b c h2 (by omega) h4
/-- the least of the ways is one of them -/
theorem tm_is (l : List Int) (b : Nat → Int) (n : Nat) : ∀ m, m ≤ n → 0 ≤ (tm l b n m).1 → 1 ≤ (tm l b n m).2 ∧ (tm l b n m).2 ≤ m ∧ 0 ≤ b (n - (tm l b n m).2) ∧ (tm l b n m).1 = b (n - (tm l b n m).2) + (one l (n - (tm l b n m).2) n).2
  | 0, _, h => by simp [tm] at h
  | m + 1, hm, h => by
    simp only [tm] at h ⊢
    split at h
    · rename_i hc; rw [if_pos hc]; have := tm_is l b n m (by omega) h; omega
    · rename_i hc
      rw [if_neg hc]
      split at h
      · rename_i hd; rw [if_pos hd]; exact ⟨Nat.succ_le_succ (Nat.zero_le _), Nat.le_refl _, (by omega : 0 ≤ b (n - (m + 1))), rfl⟩
      · rename_i hd; rw [if_neg hd]; have := tm_is l b n m (by omega) h; omega
theorem tc_is {l : List Int} {c n : Nat} (hn : 0 < n) (h : 0 ≤ tc l (c + 1) n) : 1 ≤ tl l (c + 1) n ∧ tl l (c + 1) n ≤ n ∧ 0 ≤ tc l c (n - tl l (c + 1) n) ∧ tc l (c + 1) n = tc l c (n - tl l (c + 1) n) + (one l (n - tl l (c + 1) n) n).2 := by
  have e : tc l (c + 1) n = (tm l (tc l c) n n).1 := by simp only [tc, if_neg (show ¬ n = 0 by omega)]
  have e2 : tl l (c + 1) n = (tm l (tc l c) n n).2 := by simp only [tl, if_neg (show ¬ n = 0 by omega)]
  rw [e] at h ⊢
  rw [e2]
  exact tm_is l _ n n (Nat.le_refl _) h
/-- the way back takes a floor of each step -/
def proper (l : List Int) : Nat → Nat → Prop
  | 0, n => n = 0
  | c + 1, n => 0 < n ∧ proper l c (n - tl l (c + 1) n)
theorem proper_or {l : List Int} (hok : okP l = true) : ∀ c n, n ≤ 128 → 0 ≤ tc l c n → proper l c n ∨ ∃ c', c' < c ∧ (0 < n → 0 < c') ∧ 0 ≤ tc l c' n ∧ tc l c' n ≤ tc l c n
  | 0, n, _, h => by
    left
    simp only [tc] at h
    split at h
    · assumption
    · omega
  | c + 1, n, hn, h => by
    rcases Nat.eq_zero_or_pos n with h0 | h0
    · subst h0
      exact .inr ⟨0, by omega, by omega, by simp [tc], by simp [tc]⟩
    · obtain ⟨a1, a2, a3, a4⟩ := tc_is h0 h
      rcases proper_or hok c _ (by omega) a3 with hp | ⟨c', h1, h2, h3, h4⟩
      · exact .inl ⟨h0, hp⟩
      · have := tc_le_way hok (c := c') hn (show n - tl l (c + 1) n < n by omega) h3
        exact .inr ⟨c' + 1, by omega, fun _ => by omega, this.1, by omega⟩
end Go.Proofs.Ytalecppofemcnaa.ParkP
