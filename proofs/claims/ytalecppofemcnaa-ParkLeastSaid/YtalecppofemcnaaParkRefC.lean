/-
  The walk of the reference's Cost.
-/
import Derived.Test.YtalecppofemcnaaParkCost
namespace Go.Proofs.Ytalecppofemcnaa
open Go.RowKit HB ParkP
set_option linter.unusedVariables false
set_option linter.unusedSimpArgs false
namespace ParkP
theorem pn_nn (n : Nat) (F : List Int) (i : Nat) : ∀ k, 0 ≤ pn n F i k
  | 0 => by simp [pn]
  | k + 1 => by
    have ih := pn_nn n F i k
    have : 0 ≤ far (i : Int) (gt F k) := by unfold far; omega
    simp only [pn]; omega
def rb (n : Nat) (F : List Int) (i k : Nat) : Int := if k = 0 then -1 else pn n F i k
theorem rb_next {n : Nat} {F : List Int} {i k : Nat} {x : Int} (hk : F[k]? = some x) (h0 : 0 ≤ x) (h1 : x < (n : Int)) (hi : i < n) : rb n F i (k + 1) = if rb n F i k < 0 ∨ far (i : Int) x < rb n F i k then far (i : Int) x else rb n F i k := by
  have hg := gt_get hk
  have hf : far (i : Int) x ≤ n := by unfold far; omega
  have hf0 : 0 ≤ far (i : Int) x := by unfold far; omega
  rcases Nat.eq_zero_or_pos k with h | h
  · subst h
    simp only [rb, pn, hg]
    simp
    omega
  · have := pn_nn n F i k
    simp only [rb, pn, hg, if_neg (show ¬ k = 0 by omega), if_neg (show ¬ k + 1 = 0 by omega)]
    split <;> omega
end ParkP
def CostPost2 (l F : List Int) (w : World) (e : Ending) (w' : World) : Prop :=
  e = .returned (.tuple #[.int .i64 (if good l F then cs l F l.length else 0), .bool (good l F)]) ∧ w = w'
set_option maxRecDepth 100000 in
set_option maxHeartbeats 4000000 in
theorem ref_cost (A A' : Option Addr) (n c m c' B : Nat) (l F : List Int) (w : World) (hr : Rd w B 1 A n (l.map (Value.int .i64))) (hl : l.length = n) (hr' : Rd w B 1 A' m (F.map (Value.int .i64))) (hl' : F.length = m) (hn : n ≤ 9223372036854775807) (hm : m ≤ 9223372036854775807) :
    Calls Try.prog 35 #[.slice A n c, .slice A' m c'] w (CostPost2 l F w) := by
  have hC := ref_right A n c B l w hr hl hn
  have Hl := hide hl
  have Hl' := hide hl'
  have HR := hide hr
  have HR' := hide hr'
  cases hok : okP l with
  | false =>
    have hg : good l F = false := by simp [good, hok]
    rw [hok] at hC
    have HC := hide hC
    have HG := hide hg
    clear hC hok hr hl hr' hl' hg
    go_enter Try.func35, Try.ntmps35
    go_wp2_with (go_at_call 31; refine (HC.out).mono ?_; rintro e w1 ⟨rfl, rfl⟩)
    go_ret2
    exact ⟨by rw [HG.out]; rfl, rfl⟩
  | true =>
    have hn1 := (okP_yes hok).1
    have hn2 := (okP_yes hok).2.1
    rw [hl] at hn1 hn2
    have Hok := hide hok
    rw [hok] at hC
    have HC := hide hC
    rcases Nat.eq_zero_or_pos m with h0 | h0
    · subst h0
      have hg : good l F = false := by rw [List.length_eq_zero_iff] at hl'; simp [good, hl']
      have HG := hide hg
      clear hC hok hr hl hr' hl' hg
      go_enter Try.func35, Try.ntmps35
      go_wp2_with (go_at_call 31; refine (HC.out).mono ?_; rintro e w1 ⟨rfl, rfl⟩)
      go_ret2
      exact ⟨by rw [HG.out]; rfl, rfl⟩
    · have hge : good l F = inR n F := by
        have : F ≠ [] := fun h => by rw [h] at hl'; simp at hl'; omega
        simp [good, hok, this, hl]
      have HGE := hide hge
      have z0 : decide (m = 0) = false := by simp; omega
      clear hC hok hr hl hr' hl' hge
      go_enter Try.func35, Try.ntmps35
      go_wp2_with (go_at_call 31; refine (HC.out).mono ?_; rintro e w1 ⟨rfl, rfl⟩)
      go_loop [6, 7, 8, 9, 10] (fun s j _ _ _ => ∃ u : Nat, u ≤ n ∧ j = .int .i64 u ∧ s = .int .i64 (cs l F u) ∧ (0 < u → inR n F = true)) (fun _ j _ _ _ => n - (intOf j).toNat)
      case atStart => exact ⟨0, Nat.zero_le _, rfl, rfl, fun h => absurd h (by omega)⟩
      case round =>
        obtain ⟨u, hu, rfl, rfl, hpos⟩ := hrel
        have HPOS := hide hpos
        clear hpos
        by_cases hlu : u < n
        · obtain ⟨b, off, y, rfl, hb, hg, c0⟩ := HR.out.int_at Hl.out hlu
          have hx := okP_wt Hok.out u
          have hE := hide (show cs l F (u + 1) = cs l F u + y * pn n F u m by simp only [cs]; rw [wt_get hg, Hl.out, Hl'.out])
          rw [wt_get hg] at hx
          obtain ⟨x0, x1⟩ := hx
          have HCR := hide (fun (h : inR n F = true) => cs_range (l := l) (F := F) Hok.out (by rw [Hl.out]; exact h) u (by rw [Hl.out]; omega))
          have HPR := hide (fun (h : inR n F = true) => pn_range h hlu)
          generalize cs l F u = s at *
          clear hg
          go_wp2_with fail
          go_loop [8, 9, 10] (fun g i _ => ∃ v : Nat, v ≤ m ∧ i = .int .i64 v ∧ g = .int .i64 (rb n F u v) ∧ inR n (F.take v) = true) (fun _ i _ => m - (intOf i).toNat)
          case atStart => exact ⟨0, Nat.zero_le _, rfl, rfl, by simp [inR]⟩
          case round =>
            obtain ⟨v, hv, rfl, rfl, hall⟩ := hrel
            have HA := hide hall
            clear hall
            by_cases hlv : v < m
            · obtain ⟨b2, off2, x, rfl, hb2, hg2, c2⟩ := HR'.out.int_at Hl'.out hlv
              have Hg := hide hg2
              clear hg2
              rcases (show x < 0 ∨ (0 ≤ x ∧ (n : Int) ≤ x) ∨ (0 ≤ x ∧ x < (n : Int)) by omega) with h3 | ⟨h3, h4⟩ | ⟨h3, h4⟩
              · have hf := hide (HGE.out.trans (inR_no Hg.out (.inl h3)))
                go_wp2_with fail
                go_ret2
                exact ⟨by rw [hf.out]; rfl, rfl⟩
              · have hf := hide (HGE.out.trans (inR_no Hg.out (.inr h4)))
                go_wp2_with fail
                go_ret2
                exact ⟨by rw [hf.out]; rfl, rfl⟩
              · have HNX := hide (show inR n (F.take (v + 1)) = true by
                  rw [List.take_add_one, Hg.out]
                  have := HA.out
                  simp only [inR] at this ⊢
                  rw [List.all_append, this]
                  simp [h3, h4])
                have HRB := hide (rb_next Hg.out h3 h4 hlu)
                obtain ⟨t, ht⟩ : ∃ t, t = x - (u : Int) := ⟨_, rfl⟩
                have e1 : IntKind.i64.wrap (x - (u : Int)) = t := by rw [ht]; exact IntWalk.i64_in _ (by omega)
                have e2 : IntKind.i64.wrap (-t) = -t := IntWalk.i64_in _ (by omega)
                have e3 : IntKind.i64.wrap (0 - t) = -t := by rw [Int.zero_sub]; exact e2
                have hfar : far (u : Int) x = if t < 0 then -t else t := by unfold far; split <;> omega
                rw [hfar] at HRB
                generalize rb n F u v = R at *
                clear ht hfar
                rcases (show t < 0 ∨ 0 ≤ t by omega) with ht | ht
                · rw [if_pos ht] at HRB
                  rcases (show R < 0 ∨ (0 ≤ R ∧ -t < R) ∨ (0 ≤ R ∧ R ≤ -t) by omega) with h5 | ⟨h5, h6⟩ | ⟨h5, h6⟩
                  · have hN := hide (show rb n F u (v + 1) = -t by rw [HRB.out, if_pos (.inl h5)])
                    clear HRB
                    go_wp2_with fail
                    go_round
                    case rel => exact ⟨v + 1, by omega, by go_num, by rw [hN.out], HNX.out⟩
                    case measure => simp [intOf]; omega
                  · have hN := hide (show rb n F u (v + 1) = -t by rw [HRB.out, if_pos (.inr h6)])
                    clear HRB
                    go_wp2_with fail
                    go_round
                    case rel => exact ⟨v + 1, by omega, by go_num, by rw [hN.out], HNX.out⟩
                    case measure => simp [intOf]; omega
                  · have hN := hide (show rb n F u (v + 1) = R by rw [HRB.out, if_neg (by omega)])
                    clear HRB
                    go_wp2_with fail
                    go_round
                    case rel => exact ⟨v + 1, by omega, by go_num, by rw [hN.out], HNX.out⟩
                    case measure => simp [intOf]; omega
                · rw [if_neg (show ¬ t < 0 by omega)] at HRB
                  rcases (show R < 0 ∨ (0 ≤ R ∧ t < R) ∨ (0 ≤ R ∧ R ≤ t) by omega) with h5 | ⟨h5, h6⟩ | ⟨h5, h6⟩
                  · have hN := hide (show rb n F u (v + 1) = t by rw [HRB.out, if_pos (.inl h5)])
                    clear HRB
                    go_wp2_with fail
                    go_round
                    case rel => exact ⟨v + 1, by omega, by go_num, by rw [hN.out], HNX.out⟩
                    case measure => simp [intOf]; omega
                  · have hN := hide (show rb n F u (v + 1) = t by rw [HRB.out, if_pos (.inr h6)])
                    clear HRB
                    go_wp2_with fail
                    go_round
                    case rel => exact ⟨v + 1, by omega, by go_num, by rw [hN.out], HNX.out⟩
                    case measure => simp [intOf]; omega
                  · have hN := hide (show rb n F u (v + 1) = R by rw [HRB.out, if_neg (by omega)])
                    clear HRB
                    go_wp2_with fail
                    go_round
                    case rel => exact ⟨v + 1, by omega, by go_num, by rw [hN.out], HNX.out⟩
                    case measure => simp [intOf]; omega
            · obtain rfl : v = m := by omega
              have hin := HA.out
              rw [List.take_of_length_le (by rw [Hl'.out]; omega)] at hin
              have HI := hide hin
              have hrb : rb n F u v = pn n F u v := if_neg (by omega)
              rw [hrb]
              have hp := HPR.out hin v (by rw [Hl'.out]; omega)
              have hcr := HCR.out hin
              obtain ⟨m0, m1⟩ := mul_in x0 x1 hp.1 (by omega)
              generalize pn n F u v = P at *
              generalize hxy : y * P = p at *
              have e1 : IntKind.i64.wrap (y * P) = p := by rw [hxy]; exact IntWalk.i64_in _ (by omega)
              have e2 : IntKind.i64.wrap (s + p) = s + p := IntWalk.i64_in _ (by omega)
              clear hxy m0 m1 hin hrb hcr hp
              go_wp2_with fail
              go_round
              case rel => first | exact ⟨u + 1, by omega, by go_num, by rw [hE.out], fun _ => HI.out⟩ | ((repeat apply Exists.intro); exact ⟨⟨u + 1, by omega, by go_num, by rw [hE.out], fun _ => HI.out⟩, rfl, rfl, rfl, rfl⟩)
              case measure => simp [intOf]; omega
        · obtain rfl : u = n := by omega
          have HG := hide (HGE.out.trans (HPOS.out hn1))
          go_wp2_with fail
          go_ret2
          exact ⟨by rw [HG.out, Hl.out]; rfl, rfl⟩
end Go.Proofs.Ytalecppofemcnaa
