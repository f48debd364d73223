/-
  The walks of park.Cost and of the reference's Right and Cost.
-/
import Derived.Test.YtalecppofemcnaaPark
import Derived.BigQuiet
namespace Go.Proofs.Ytalecppofemcnaa
open Go.RowKit HB ParkP
set_option linter.unusedVariables false
set_option linter.unusedSimpArgs false
namespace ParkP
def inR (n : Nat) (F : List Int) : Bool := F.all fun f => decide (0 ≤ f ∧ f < (n : Int))
def gt (F : List Int) (k : Nat) : Int := F.getD k 0
/-- how far it is to the nearest of the first k, at most n -/
def pn (n : Nat) (F : List Int) (i : Nat) : Nat → Int
  | 0 => n
  | k + 1 => min (pn n F i k) (far (i : Int) (gt F k))
def cs (l F : List Int) : Nat → Int
  | 0 => 0
  | j + 1 => cs l F j + wt l j * pn l.length F j F.length
def good (l F : List Int) : Bool := okP l && !F.isEmpty && inR l.length F
theorem gt_get {F : List Int} {k : Nat} {x : Int} (h : F[k]? = some x) : gt F k = x := by simp [gt, h]
theorem inR_get {n : Nat} {F : List Int} (h : inR n F = true) {k : Nat} {x : Int} (hk : F[k]? = some x) : 0 ≤ x ∧ x < (n : Int) := by
  simp only [inR, List.all_eq_true, decide_eq_true_eq] at h
  exact h x (List.mem_of_getElem? hk)
theorem inR_no {n : Nat} {F : List Int} {k : Nat} {x : Int} (hk : F[k]? = some x) (hx : x < 0 ∨ (n : Int) ≤ x) : inR n F = false := by
  cases h : inR n F with
  | false => rfl
  | true => have := inR_get h hk; omega
theorem pn_range {n : Nat} {F : List Int} (h : inR n F = true) {i : Nat} (hi : i < n) : ∀ k, k ≤ F.length → 0 ≤ pn n F i k ∧ pn n F i k ≤ n
  | 0, _ => by simp [pn]
  | k + 1, hk => by
    have ih := pn_range h hi k (by omega)
    have : 0 ≤ far (i : Int) (gt F k) := by unfold far; omega
    simp only [pn]; omega
theorem cs_range {l F : List Int} (hok : okP l = true) (h : inR l.length F = true) : ∀ j, j ≤ l.length → 0 ≤ cs l F j ∧ cs l F j ≤ j * 134217728
  | 0, _ => by simp [cs]
  | j + 1, hj => by
    have ih := cs_range hok h j (by omega)
    have hn := (okP_yes hok).2.1
    obtain ⟨x0, x1⟩ := okP_wt hok j
    obtain ⟨y0, y1⟩ := pn_range h (show j < l.length by omega) F.length (Nat.le_refl _)
    obtain ⟨m0, m1⟩ := mul_in x0 x1 y0 (by omega)
    simp only [cs]; omega
end ParkP
def CostPost (l F : List Int) (w : World) (e : Ending) (w' : World) : Prop :=
  e = .returned (.tuple #[.int .i64 (if good l F then cs l F l.length else 0), .int .i64 (if good l F then 0 else 22)]) ∧ ∃ m, w' = w.drewN m
set_option maxRecDepth 100000 in
set_option maxHeartbeats 4000000 in
theorem park_cost (A A' : Option Addr) (n c m c' B : Nat) (l F : List Int) (w : World) (hr : Rd w B 1 A n (l.map (Value.int .i64))) (hl : l.length = n) (hr' : Rd w B 1 A' m (F.map (Value.int .i64))) (hl' : F.length = m) (hn : n ≤ 9223372036854775807) (hm : m ≤ 9223372036854775807) :
    Calls Try.prog 34 #[.slice A n c, .slice A' m c'] w (CostPost l F w) := by
  have hC := park_right A n c B l w hr hl hn
  have Hl := hide hl
  have Hl' := hide hl'
  have HR := hide hr
  have HR' := hide hr'
  cases hok : okP l with
  | false =>
    have hg : good l F = false := by simp [good, hok]
    rw [hok] at hC
    have HC := hide hC
    have HG := hide hg
    clear hC hok hr hl hr' hl' hg
    go_enter Try.func34, Try.ntmps34
    go_wp2_with (go_at_call 47; refine (HC.out).mono ?_; rintro e w1 ⟨rfl, rfl⟩)
    go_ret2
    exact ⟨by rw [HG.out]; rfl, 0, rfl⟩
  | true =>
    have hn1 := (okP_yes hok).1
    have hn2 := (okP_yes hok).2.1
    rw [hl] at hn1 hn2
    have Hok := hide hok
    rw [hok] at hC
    have HC := hide hC
    rcases Nat.eq_zero_or_pos m with h0 | h0
    · subst h0
      have hg : good l F = false := by rw [List.length_eq_zero_iff] at hl'; simp [good, hl']
      have HG := hide hg
      clear hC hok hr hl hr' hl' hg
      go_enter Try.func34, Try.ntmps34
      go_wp2_with (go_at_call 47; refine (HC.out).mono ?_; rintro e w1 ⟨rfl, rfl⟩)
      go_ret2
      exact ⟨by rw [HG.out]; rfl, 0, rfl⟩
    · have hge : good l F = inR n F := by
        have : F ≠ [] := fun h => by rw [h] at hl'; simp at hl'; omega
        simp [good, hok, this, hl]
      have HGE := hide hge
      have z0 : decide (m = 0) = false := by simp; omega
      clear hC hok hr hl hr' hl' hge
      go_enter Try.func34, Try.ntmps34
      go_wp2_with (go_at_call 47; refine (HC.out).mono ?_; rintro e w1 ⟨rfl, rfl⟩)
      go_loop [24] (fun i => ∃ q : Nat, q ≤ m ∧ i = .int .i64 q ∧ inR n (F.take q) = true) (fun i => m - (intOf i).toNat)
      case atStart => exact ⟨0, Nat.zero_le _, rfl, by simp [inR]⟩
      case round =>
        obtain ⟨q, hq, rfl, hall⟩ := hrel
        have HA := hide hall
        clear hall
        by_cases hlt : q < m
        · obtain ⟨b, off, x, rfl, hb, hg, c0⟩ := HR'.out.int_at Hl'.out hlt
          have Hg := hide hg
          clear hg
          rcases (show x < 0 ∨ (0 ≤ x ∧ (n : Int) ≤ x) ∨ (0 ≤ x ∧ x < (n : Int)) by omega) with h3 | ⟨h3, h4⟩ | ⟨h3, h4⟩
          · have hf := hide (HGE.out.trans (inR_no Hg.out (.inl h3)))
            go_wp2_with fail
            go_ret2
            exact ⟨by rw [hf.out]; rfl, 0, rfl⟩
          · have hf := hide (HGE.out.trans (inR_no Hg.out (.inr h4)))
            go_wp2_with fail
            go_ret2
            exact ⟨by rw [hf.out]; rfl, 0, rfl⟩
          · go_wp2_with fail
            go_round
            case rel =>
              have hnx : inR n (F.take (q + 1)) = true := by
                rw [List.take_add_one, Hg.out]
                have := HA.out
                simp only [inR] at this ⊢
                rw [List.all_append, this]
                simp [h3, h4]
              first | exact ⟨q + 1, by omega, by go_num, hnx⟩ | ((repeat apply Exists.intro); exact ⟨⟨q + 1, by omega, by go_num, hnx⟩, rfl, rfl, rfl, rfl⟩)
            case measure => simp [intOf]; omega
        · have hin := HA.out
          rw [List.take_of_length_le (by rw [Hl'.out]; omega)] at hin
          have HI := hide hin
          have HG := hide (HGE.out.trans hin)
          clear hin
          go_wp2_with fail
          go_loopw [8, 9, 10, 11, 13, 39] (fun s _ _ _ _ j wr => ∃ u k : Nat, u ≤ n ∧ j = .int .i64 u ∧ s = .int .i64 (cs l F u) ∧ wr = w.drewN k) (fun _ _ _ _ _ j _ => n - (intOf j).toNat)
          case atStart => exact ⟨0, 0, Nat.zero_le _, rfl, rfl, rfl⟩
          case round =>
            obtain ⟨u, k, hu, rfl, rfl, hw⟩ := hrel
            have HW := hide hw
            by_cases hlu : u < n
            · obtain ⟨W1, hW1⟩ : ∃ W1, W1 = wr := ⟨_, rfl⟩
              subst hW1
              have HRW := hide (show Rd W1 B 1 A' m (F.map (Value.int .i64)) by rw [hw]; exact HR'.out.drewN k)
              obtain ⟨b, off, y, rfl, hb, hg, c0⟩ := (show Rd W1 B 1 A n (l.map (Value.int .i64)) by rw [hw]; exact HR.out.drewN k).int_at Hl.out hlu
              have hx := okP_wt Hok.out u
              have hcr := cs_range Hok.out (by rw [Hl.out]; exact HI.out) u (by rw [Hl.out]; omega)
              have hE := hide (show cs l F (u + 1) = cs l F u + y * pn n F u m by simp only [cs]; rw [wt_get hg, Hl.out, Hl'.out])
              rw [wt_get hg] at hx
              obtain ⟨x0, x1⟩ := hx
              have HPR := hide (pn_range HI.out hlu)
              have o0 := hcr.1
              have o1 : cs l F u ≤ 17179869184 := by have := hcr.2; omega
              generalize cs l F u = s at *
              clear hw hg hcr
              go_wp2_with fail
              go_loopw [11, 13, 48] (fun g _ i wr => ∃ v k2 : Nat, v ≤ m ∧ i = .int .i64 v ∧ g = .int .i64 (pn n F u v) ∧ wr = W1.drewN k2) (fun _ _ i _ => m - (intOf i).toNat)
              case atStart => exact ⟨0, 0, Nat.zero_le _, rfl, rfl, rfl⟩
              case round =>
                obtain ⟨v, k2, hv, rfl, rfl, hw2⟩ := hrel
                have HW2 := hide hw2
                by_cases hlv : v < m
                · obtain ⟨b2, off2, x, rfl, hb2, hg2, c2⟩ := (show Rd wr B 1 A' m (F.map (Value.int .i64)) by rw [hw2]; exact HRW.out.drewN k2).int_at Hl'.out hlv
                  obtain ⟨f0, f1⟩ := inR_get HI.out hg2
                  have hP := hide (show pn n F u (v + 1) = min (pn n F u v) (far (u : Int) x) by simp only [pn]; rw [gt_get hg2])
                  have hFar := hide (fun (W : World) => place_far (u : Int) x (by omega) (by omega) f0 (by omega) W)
                  generalize far (u : Int) x = y2 at *
                  generalize pn n F u v = P at *
                  clear hg2 hw2
                  go_wp2_with (go_at_call 50; refine (hFar.out _).mono ?_; rintro e w3 ⟨rfl, rfl⟩)
                  go_roundw
                  case rel =>
                    first | exact ⟨v + 1, k2, by omega, by go_num, by rw [hP.out], HW2.out⟩ | ((repeat apply Exists.intro); exact ⟨⟨v + 1, k2, by omega, by go_num, by rw [hP.out], HW2.out⟩, rfl⟩)
                  case measure => simp [intOf]; omega
                · obtain rfl : v = m := by omega
                  have hp := HPR.out v (by rw [Hl'.out]; omega)
                  obtain ⟨m0, m1⟩ := mul_in x0 x1 hp.1 (by omega)
                  generalize pn n F u v = P at *
                  generalize hxy : y * P = p at *
                  have e1 : IntKind.i64.wrap (y * P) = p := by rw [hxy]; exact IntWalk.i64_in _ (by omega)
                  have e2 : IntKind.i64.wrap (s + p) = s + p := IntWalk.i64_in _ (by omega)
                  clear hxy m0 m1 hw2
                  go_wp2_with fail
                  go_roundw
                  case rel =>
                    first | exact ⟨u + 1, _, by omega, by go_num, by rw [hE.out], by rw [HW2.out, HW.out]; exact World.drewN_drewN _ _ _⟩ | ((repeat apply Exists.intro); exact ⟨⟨u + 1, _, by omega, by go_num, by rw [hE.out], by rw [HW2.out, HW.out]; exact World.drewN_drewN _ _ _⟩, rfl⟩)
                  case measure => simp [intOf]; omega
            · obtain rfl : u = n := by omega
              go_wp2_with fail
              go_ret2
              exact ⟨by rw [HG.out, Hl.out]; rfl, k, by first | exact HW.out | rfl⟩
theorem ref_right (A : Option Addr) (n c B : Nat) (l : List Int) (w : World) (hr : Rd w B 1 A n (l.map (Value.int .i64))) (hl : l.length = n) (hn : n ≤ 9223372036854775807) :
    Calls Try.prog 31 #[.slice A n c] w fun e w' => e = .returned (.bool (okP l)) ∧ w = w' := by
  have Hl := hide hl
  clear hl
  go_enter Try.func31, Try.ntmps31
  go_wp2_with fail
  go_loop [3] (fun i => ∃ q : Nat, q ≤ n ∧ i = .int .i64 q ∧ ∀ x ∈ l.take q, 0 ≤ x ∧ x ≤ 1048576) (fun i => n - (intOf i).toNat)
  case atStart => exact ⟨0, Nat.zero_le _, rfl, by simp⟩
  case round =>
    obtain ⟨q, hq, rfl, hall⟩ := hrel
    have HA := hide hall
    clear hall
    by_cases hlt : q < n
    · obtain ⟨b, off, x, rfl, hb, hg, c0⟩ := hr.int_at Hl.out hlt
      have Hg := hide hg
      have hno : (x < 0 ∨ 1048576 < x) → okP l = false := fun h => okP_no (fun hh => by have := hh.2.2 x (List.mem_of_getElem? hg); omega)
      have HN := hide hno
      clear hno hg hr
      rcases (show x < 0 ∨ (0 ≤ x ∧ 1048576 < x) ∨ (0 ≤ x ∧ x ≤ 1048576) by omega) with h3 | ⟨h3, h4⟩ | ⟨h3, h4⟩
      · have hf := hide (HN.out (.inl h3))
        go_wp2_with fail
        go_ret
        exact ⟨ret_bool (by rw [hf.out]), rfl⟩
      · have hf := hide (HN.out (.inr h4))
        go_wp2_with fail
        go_ret
        exact ⟨ret_bool (by rw [hf.out]), rfl⟩
      · go_wp2_with fail
        go_round
        case rel =>
          have hnx : ∀ y ∈ l.take (q + 1), 0 ≤ y ∧ y ≤ 1048576 := by
            rw [List.take_add_one, Hg.out]
            intro y hy
            rcases List.mem_append.1 hy with hy | hy
            · exact HA.out y hy
            · simp at hy; subst hy; exact ⟨h3, h4⟩
          first | exact ⟨q + 1, by omega, by go_num, hnx⟩ | ((repeat apply Exists.intro); exact ⟨⟨q + 1, by omega, by go_num, hnx⟩, rfl⟩)
        case measure => simp [intOf]; omega
    · have hall := HA.out
      rw [List.take_of_length_le (by rw [Hl.out]; omega)] at hall
      rcases (show n = 0 ∨ (0 < n ∧ 128 < n) ∨ (0 < n ∧ n ≤ 128) by omega) with h | ⟨h, h'⟩ | ⟨h, h'⟩
      · subst h
        have hf := hide (okP_no (l := l) (fun hh => by have := Hl.out; omega))
        clear hall
        go_wp2_with fail
        go_ret
        exact ⟨ret_bool (by rw [hf.out]), rfl⟩
      · have hf := hide (okP_no (l := l) (fun hh => by have := Hl.out; omega))
        have z0 : decide (0 < n) = true := by simpa using h
        have z1 : decide (n ≤ 128) = false := by simp; omega
        clear hall
        go_wp2_with fail
        go_ret
        exact ⟨ret_bool (by rw [hf.out]; simp; omega), rfl⟩
      · have hf := hide (okP_mk (l := l) ⟨by rw [Hl.out]; exact h, by rw [Hl.out]; exact h', hall⟩)
        have z0 : decide (0 < n) = true := by simpa using h
        have z1 : decide (n ≤ 128) = true := by simpa using h'
        clear hall
        go_wp2_with fail
        go_ret
        exact ⟨ret_bool (by rw [hf.out]; simp; omega), rfl⟩
end Go.Proofs.Ytalecppofemcnaa
