/-
  The walk of the reference's Least.
-/
import Derived.Test.YtalecppofemcnaaParkClone
import Derived.Test.YtalecppofemcnaaParkBits
import Derived.WalkSpells
namespace Go.Proofs.Ytalecppofemcnaa
open Go.RowKit HB ParkP
set_option linter.unusedVariables false
set_option linter.unusedSimpArgs false
namespace ParkP
theorem flrs_good {l : List Int} (hok : okP l = true) {n m : Nat} (hl : l.length = n) (h1 : 1 ≤ m) (h2 : m < 2 ^ n) : good l (flrs m n) = true := by
  have h3 : (flrs m n).isEmpty = false := by
    cases hb : flrs m n with
    | nil => exact absurd hb (flrs_ne m n h1 h2)
    | cons x xs => rfl
  simp only [good, hok, h3, hl, inR, Bool.not_false, Bool.and_self, Bool.true_and, List.all_eq_true, decide_eq_true_eq]
  exact flrs_in m n
theorem pow_le {n : Nat} (h : n ≤ 9) : 2 ^ n ≤ 512 := Nat.pow_le_pow_right (n := 2) (by omega) h
theorem bl_skip {l : List Int} {k : Int} {n m : Nat} (h : k < (flrs m n).length) : bl l k n (m + 1) = bl l k n m := by
  simp only [bl]; rw [if_pos (.inr h)]
theorem bl_take {l : List Int} {k : Int} {n m : Nat} (h0 : 1 ≤ m) (h : ¬ k < (flrs m n).length) (h2 : bl l k n m < 0 ∨ cs l (flrs m n) n < bl l k n m) : bl l k n (m + 1) = cs l (flrs m n) n := by
  simp only [bl]; rw [if_neg (by rintro (h3 | h3); omega; exact h h3), if_pos h2]
theorem bl_keep {l : List Int} {k : Int} {n m : Nat} (h0 : 1 ≤ m) (h : ¬ k < (flrs m n).length) (h2 : ¬ bl l k n m < 0) (h3 : ¬ cs l (flrs m n) n < bl l k n m) : bl l k n (m + 1) = bl l k n m := by
  simp only [bl]; rw [if_neg (by rintro (h4 | h4); omega; exact h h4), if_neg (by rintro (h4 | h4); exact h2 h4; exact h3 h4)]
theorem flrs_yes {m n : Nat} (h : m / 2 ^ n % 2 = 1) : flrs m (n + 1) = flrs m n ++ [(n : Int)] := by simp only [flrs]; rw [if_pos h]
theorem flrs_not {m n : Nat} (h : ¬ m / 2 ^ n % 2 = 1) : flrs m (n + 1) = flrs m n := by simp only [flrs]; rw [if_neg h]
end ParkP
set_option maxRecDepth 100000 in
set_option maxHeartbeats 4000000 in
theorem ref_least (A : Option Addr) (n c B : Nat) (l : List Int) (k : Int) (w : World) (hr : Rd w B 1 A n (l.map (Value.int .i64))) (hB : B ≤ w.heap.size) (hl : l.length = n) (hok : okP l = true) (hn : n ≤ 9) :
    Calls Try.prog 33 #[.slice A n c, .int .i64 k] w fun e w' => e = .returned (.int .i64 (bl l k n (2 ^ n))) ∧ Below w.heap.size w w' := by
  have Hl := hide hl
  have HR := hide hr
  have Hok := hide hok
  have hP := pow_le hn
  have hn0 := (okP_yes hok).1
  rw [hl] at hn0
  have hP1 : 2 ≤ 2 ^ n := Nat.pow_le_pow_right (n := 2) (i := 1) (by omega) hn0
  obtain ⟨P, hPe⟩ : ∃ P : Nat, P = 2 ^ n := ⟨_, rfl⟩
  have HP := hide hPe
  rw [← hPe] at hP hP1 ⊢
  have es : (1 : Int) * 2 ^ (n : Int).toNat = (P : Int) := by rw [hPe]; simp
  have es2 : (2 : Int) ^ n = (P : Int) := by rw [hPe]; simp
  clear hl hr hok hPe
  go_enter Try.func33, Try.ntmps33
  go_wp2_with fail
  go_loopw [5, 6, 7, 8, 9, 10] (fun b m x7 x8 x9 x10 wr => ∃ M : Nat, 1 ≤ M ∧ M ≤ P ∧ m = .int .i64 M ∧ b = .int .i64 (bl l k n M) ∧ Below w.heap.size w wr) (fun _ m _ _ _ _ _ => 600 - (intOf m).toNat)
  case atStart => exact ⟨1, by omega, by omega, rfl, rfl, Below.refl _ _⟩
  case round =>
    obtain ⟨M, hM1, hM2, rfl, rfl, hbel⟩ := hrel
    by_cases hlt : M < P
    · have HBE := hide hbel
      have hz1 := hbel.size
      have HM := hide hM1
      clear hbel
      go_wp2_with fail
      go_loopw [7, 8] (fun v i wq => ∃ q : Nat, q ≤ n ∧ i = .int .i64 q ∧ Own wq w.heap.size 3 1 (num .i64) v (flrs M q) ∧ Below w.heap.size w wq) (fun _ i _ => n - (intOf i).toNat)
      case atStart => exact ⟨0, by omega, rfl, Own.nil _ _ _ _ _, HBE.out⟩
      case round =>
        obtain ⟨q, hq, rfl, hown, hbel⟩ := hrel
        have hL := flrs_len M q
        have hL9 : (flrs M q).length ≤ 1000000000 := by omega
        have hz := hbel.size
        have HO := hide hown
        have HB2 := hide hbel
        clear hown hbel
        by_cases hqn : q < n
        · obtain ⟨Q, hQ⟩ : ∃ Q : Nat, Q = M / 2 ^ q := ⟨_, rfl⟩
          have e1 : (M : Int) / 2 ^ q = (Q : Int) := by rw [hQ]; simp
          have e2 : (M : Int) / 2 ^ (q : Int).toNat = (Q : Int) := by rw [hQ]; simp
          have hQ2 : Q ≤ 512 := by rw [hQ]; exact Nat.le_trans (Nat.div_le_self _ _) (by omega)
          have HQ := hide hQ
          clear hQ
          by_cases hbit : Q % 2 = 1
          · have HY := hide (flrs_yes (m := M) (n := q) (by rw [← HQ.out]; exact hbit))
            go_wp2_with (at_builtin; refine push rfl _ _ 26 rfl Try.underlying26 Zone.iinfo rfl (by omega) (by omega) rfl (HO.out.alloc _) (q : Int) ⟨_, 0, none⟩ 1 rfl rfl (cell_one_new _ _ _) (by simp [Value.oneCell']) hL9 (Nat.le_trans hz (by simp)) ?_; intro v' w1 hown1 hb1)
            go_roundw
            case rel => exact ⟨q + 1, by omega, by go_num, by rw [HY.out]; exact hown1, (HB2.out.alloc hz _).trans hb1⟩
            case measure => simp [intOf]; omega
          · have HY := hide (flrs_not (m := M) (n := q) (by rw [← HQ.out]; exact hbit))
            have hbit0 : Q % 2 = 0 := by omega
            go_wp2_with fail
            go_roundw
            case rel => exact ⟨q + 1, by omega, by go_num, by rw [HY.out]; exact HO.out, HB2.out⟩
            case measure => simp [intOf]; omega
        · obtain rfl : q = n := by omega
          obtain ⟨A', c', rfl, hc', hr'⟩ := HO.out.ints
          have hgood := flrs_good Hok.out Hl.out HM.out (m := M) (by rw [← HP.out]; exact hlt)
          have hrc := ref_cost A A' q c (flrs M q).length c' wr.heap.size l (flrs M q) wr ((HR.out.below (HB2.out.mono hB)).mono (Nat.le_trans hB hz)) Hl.out hr' rfl (by omega) (by omega)
          unfold CostPost2 at hrc
          rw [hgood, if_pos rfl, Hl.out] at hrc
          by_cases hk : k < (flrs M q).length
          · have HS := hide (bl_skip (l := l) (n := q) hk)
            clear hrc hr' hgood
            go_wp2_with fail
            go_roundw
            case rel => exact ⟨M + 1, by omega, by omega, by go_num, by rw [HS.out], HB2.out⟩
            case measure => simp [intOf]; omega
          · have HRC := hide hrc
            have ht := fun h2 => bl_take (l := l) HM.out hk h2
            have hkp := fun h2 h3 => bl_keep (l := l) HM.out hk h2 h3
            have HT := hide ht
            have HK := hide hkp
            clear ht hkp hrc hr' hgood
            generalize cs l (flrs M q) q = C at *
            generalize bl l k q M = Bm at *
            generalize (flrs M q).length = Lm at *
            by_cases h1 : Bm < 0
            · have e9 := hide (HT.out (.inl h1))
              go_wp2_with (go_at_call 35; refine (HRC.out).mono ?_; rintro e9 w9 ⟨rfl, rfl⟩)
              go_roundw
              case rel => exact ⟨M + 1, by omega, by omega, by go_num, by rw [e9.out], HB2.out⟩
              case measure => simp [intOf]; omega
            · by_cases h2 : C < Bm
              · have e9 := hide (HT.out (.inr h2))
                go_wp2_with (go_at_call 35; refine (HRC.out).mono ?_; rintro e9 w9 ⟨rfl, rfl⟩)
                go_roundw
                case rel => exact ⟨M + 1, by omega, by omega, by go_num, by rw [e9.out], HB2.out⟩
                case measure => simp [intOf]; omega
              · have e9 := hide (HK.out h1 h2)
                go_wp2_with (go_at_call 35; refine (HRC.out).mono ?_; rintro e9 w9 ⟨rfl, rfl⟩)
                go_roundw
                case rel => exact ⟨M + 1, by omega, by omega, by go_num, by rw [e9.out], HB2.out⟩
                case measure => simp [intOf]; omega
    · obtain rfl : M = P := by omega
      go_wp2_with fail
      go_ret
      exact ⟨rfl, hbel⟩
end Go.Proofs.Ytalecppofemcnaa
