/-
  Parking, plainly: what the floors that are told are.
-/
import Derived.Test.YtalecppofemcnaaParkLaw2
namespace Go.Proofs.Ytalecppofemcnaa.ParkP
set_option linter.unusedVariables false
set_option linter.unusedSimpArgs false
theorem sw_oc_le {l : List Int} (hok : okP l = true) (f u : Nat) (d : Nat → Int) : ∀ k, (∀ i, u ≤ i → i < u + k → d i ≤ far (i : Int) f) → sw l d (u + k) ≤ sw l d u + oc l u f k
  | 0, _ => by simp [oc]
  | k + 1, h => by
    have ih := sw_oc_le hok f u d k (fun i h1 h2 => h i h1 (by omega))
    have := Int.mul_le_mul_of_nonneg_left (h (u + k) (by omega) (by omega)) (okP_wt hok (u + k)).1
    rw [← Nat.add_assoc]
    simp only [sw, oc]
    omega
/-- floors that rise, all below m -/
def rises (F : List Int) : Prop := F.Pairwise (· < ·)
theorem told {l : List Int} (hok : okP l = true) : ∀ c n, n ≤ 128 → proper l c n → 0 ≤ tc l c n → (reco l c n).length = c ∧ (∀ x ∈ reco l c n, 0 ≤ x ∧ x < (n : Int)) ∧ rises (reco l c n) ∧ sw l (nm (reco l c n)) n ≤ tc l c n
  | 0, n, _, hp, h => by
    have : n = 0 := hp
    subst this
    simp [reco, rises, sw, h]
  | c + 1, n, hn, ⟨h0, hp⟩, h => by
    obtain ⟨a1, a2, a3, a4⟩ := tc_is h0 h
    obtain ⟨i1, i2, i3, i4⟩ := told hok c _ (by omega) hp a3
    rw [a4]
    simp only [reco]
    generalize ha : n - tl l (c + 1) n = a at *
    obtain ⟨o1, o2, o3, o4, o5⟩ := og_range hok a n hn (by omega) (n - a) (by omega)
    have o6 := o5 (by omega)
    have o7 := og_is (l := l) a n (n - a) (by omega) o6.1
    have e1 : (one l a n).2 = oc l a (one l a n).1 (n - a) := o7
    have e2 : a ≤ (one l a n).1 := o1
    have e3 : (one l a n).1 < n := o6.2
    generalize (one l a n).2 = y at *
    generalize (one l a n).1 = f at *
    refine ⟨by simp [i1], fun x hx => ?_, ?_, ?_⟩
    · rcases List.mem_append.1 hx with hx | hx
      · have := i2 x hx; omega
      · simp only [List.mem_singleton] at hx; subst hx; omega
    · unfold rises at i3 ⊢
      rw [List.pairwise_append]
      refine ⟨i3, List.pairwise_singleton _ _, fun x hx z hz => ?_⟩
      simp only [List.mem_singleton] at hz
      subst hz
      have := i2 x hx
      omega
    · have h1 := sw_oc_le hok f a (nm (reco l c a ++ [(f : Int)])) (n - a) (fun i _ _ => by rw [nm_snoc]; omega)
      have h2 := sw_mono hok (d := nm (reco l c a ++ [(f : Int)])) (d' := nm (reco l c a)) a (fun i _ => by rw [nm_snoc]; omega)
      rw [show a + (n - a) = n by omega] at h1
      omega
theorem bst_range' (l : List Int) (n K : Nat) (hK : 1 ≤ K) : ∀ c, c ≤ K + 1 → 1 ≤ bst l n c ∧ bst l n c ≤ K
  | 0, _ => by simp [bst]; omega
  | c + 1, hc => by
    have ih := bst_range' l n K hK c (by omega)
    simp only [bst]
    split
    · omega
    · exact ih
/-- what is told: floors that rise, no more than asked for, at the least cost of all rows of at most so many -/
theorem best_is {l : List Int} (hok : okP l = true) {K : Nat} (h1 : 1 ≤ K) (hK : K ≤ l.length) :
    (reco l (bst l l.length (K + 1)) l.length).length ≤ K ∧ reco l (bst l l.length (K + 1)) l.length ≠ [] ∧ inR l.length (reco l (bst l l.length (K + 1)) l.length) = true ∧ rises (reco l (bst l l.length (K + 1)) l.length) ∧
    cs l (reco l (bst l l.length (K + 1)) l.length) l.length = tc l (bst l l.length (K + 1)) l.length ∧
    ∀ G : List Int, G ≠ [] → G.length ≤ K → inR l.length G = true → tc l (bst l l.length (K + 1)) l.length ≤ cs l G l.length := by
  have hn0 := (okP_yes hok).1
  have hn := (okP_yes hok).2.1
  have ht := (least hok [0] l.length hn (by simp) ⟨hn0, trivial⟩).1
  obtain ⟨b1, b2, b3⟩ := bst_least (l := l) (n := l.length) ht (K + 1)
  have hr := bst_range' l l.length K h1 (K + 1) (Nat.le_refl _)
  generalize bst l l.length (K + 1) = p at *
  have hp : proper l p l.length := by
    rcases proper_or hok p _ hn b1 with h | ⟨c, c1, c2, c3, c4⟩
    · exact h
    · have := b3 c (c2 hn0) c1 c3; omega
  obtain ⟨t1, t2, t3, t4⟩ := told hok p _ hn hp b1
  have hne : reco l p l.length ≠ [] := fun h => by rw [h] at t1; simp at t1; omega
  have hin : inR l.length (reco l p l.length) = true := by
    simp only [inR, List.all_eq_true, decide_eq_true_eq]; exact t2
  have hall : ∀ G : List Int, G ≠ [] → G.length ≤ K → inR l.length G = true → tc l p l.length ≤ cs l G l.length := by
    intro G g1 g2 g3
    obtain ⟨c, c1, c2, c3, c4⟩ := cs_least hok g3 g1
    have := b2 c (by omega) (by omega) c3
    omega
  refine ⟨by omega, hne, hin, t3, ?_, hall⟩
  have := hall _ hne (by omega) hin
  rw [cs_nm hok hin hne] at this ⊢
  omega
end Go.Proofs.Ytalecppofemcnaa.ParkP
