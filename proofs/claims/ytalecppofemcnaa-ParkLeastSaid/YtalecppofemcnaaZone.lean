/-
  The walks of zone.right, zone.need and zone.Least.
-/
import Derived.Test.YtalecppofemcnaaProg
import Derived.Test.YtalecppofemcnaaOwn
import Derived.Test.YtalecppofemcnaaZoneLaw
namespace Go.Proofs.Ytalecppofemcnaa
open Go.RowKit HB ZoneP
set_option linter.unusedVariables false
set_option linter.unusedSimpArgs false
namespace ZoneP
/-- weights and a number of zones that may be -/
def okW (l : List Int) (k : Int) : Bool := decide (0 < l.length ∧ l.length ≤ 128 ∧ 1 ≤ k ∧ ∀ x ∈ l, 0 ≤ x ∧ x ≤ 1048576)
theorem okW_yes {l : List Int} {k : Int} (h : okW l k = true) : 0 < l.length ∧ l.length ≤ 128 ∧ 1 ≤ k ∧ ∀ x ∈ l, 0 ≤ x ∧ x ≤ 1048576 := by simpa [okW] using h
theorem okW_no {l : List Int} {k : Int} (h : ¬ (0 < l.length ∧ l.length ≤ 128 ∧ 1 ≤ k ∧ ∀ x ∈ l, 0 ≤ x ∧ x ≤ 1048576)) : okW l k = false := by simpa [okW] using h
theorem okW_mk {l : List Int} {k : Int} (h : 0 < l.length ∧ l.length ≤ 128 ∧ 1 ≤ k ∧ ∀ x ∈ l, 0 ≤ x ∧ x ≤ 1048576) : okW l k = true := by simpa [okW] using h
theorem wt_get {l : List Int} {i : Nat} {x : Int} (h : l[i]? = some x) : wt l i = x := by simp [wt, h]
theorem okW_wt {l : List Int} {k : Int} (h : okW l k = true) (i : Nat) : 0 ≤ wt l i ∧ wt l i ≤ 1048576 := by
  have := (okW_yes h).2.2.2
  rcases Nat.lt_or_ge i l.length with hl | hl
  · rw [wt_get (List.getElem?_eq_getElem hl)]; exact this _ (List.getElem_mem hl)
  · simp [wt, List.getElem?_eq_none hl]
theorem okW_good {l : List Int} {k : Int} (h : okW l k = true) : Good l := fun i => (okW_wt h i).1
theorem pre_range {l : List Int} {k : Int} (h : okW l k = true) : ∀ n, 0 ≤ pre l n ∧ pre l n ≤ n * 1048576
  | 0 => by simp [pre]
  | n + 1 => by
    have := pre_range h n
    have := okW_wt h n
    simp only [pre]; omega
/-- the heaviest of the first q -/
def mx (l : List Int) : Nat → Int
  | 0 => 0
  | q + 1 => max (mx l q) (wt l q)
theorem mx_ge (l : List Int) : ∀ n i, i < n → wt l i ≤ mx l n
  | 0, i, h => by omega
  | n + 1, i, h => by
    simp only [mx]
    rcases Nat.lt_or_ge i n with hl | hl
    · have := mx_ge l n i hl; omega
    · obtain rfl : i = n := by omega
      omega
theorem mx_range {l : List Int} {k : Int} (h : okW l k = true) : ∀ n, 0 ≤ mx l n ∧ mx l n ≤ 1048576
  | 0 => by simp [mx]
  | n + 1 => by
    have := mx_range h n
    have := okW_wt h n
    simp only [mx]; omega
theorem mx_le {l : List Int} {M : Int} (h0 : 0 ≤ M) : ∀ n, (∀ i, i < n → wt l i ≤ M) → mx l n ≤ M
  | 0, _ => h0
  | n + 1, h => by
    have := mx_le h0 n (fun i hi => h i (by omega))
    have := h n (by omega)
    simp only [mx]; omega
end ZoneP

set_option maxHeartbeats 1000000 in
theorem zone_right (A : Option Addr) (n c B : Nat) (l : List Int) (k : Int) (w : World) (hr : Rd w B 1 A n (l.map (Value.int .i64))) (hl : l.length = n) :
    Calls Try.prog 44 #[.slice A n c, .int .i64 k] w fun e w' => e = .returned (.bool (okW l k)) ∧ w = w' := by
  have Hl := hide hl
  by_cases h : 0 < n ∧ n ≤ 128 ∧ 1 ≤ k
  · obtain ⟨h0, h1, h2⟩ := h
    have z0 : ((n : Int) == 0) = false := by rw [beq_eq_false_iff_ne]; omega
    have z1 : decide (128 < n) = false := by simp; omega
    clear hl
    go_enter Try.func44, Try.ntmps44
    go_wp2_with fail
    go_loop [21] (fun i => ∃ q : Nat, q ≤ n ∧ i = .int .i64 q ∧ ∀ x ∈ l.take q, 0 ≤ x ∧ x ≤ 1048576) (fun i => n - (intOf i).toNat)
    case atStart => exact ⟨0, Nat.zero_le _, rfl, by simp⟩
    case round =>
      obtain ⟨q, hq, rfl, hall⟩ := hrel
      have HA := hide hall
      clear hall
      by_cases hlt : q < n
      · obtain ⟨b, off, x, rfl, hb, hg, c0⟩ := hr.int_at Hl.out hlt
        have Hg := hide hg
        have hno : (x < 0 ∨ 1048576 < x) → okW l k = false := fun h => okW_no (fun hh => by have := hh.2.2.2 x (List.mem_of_getElem? hg); omega)
        have HN := hide hno
        clear hno hg hr
        rcases (show x < 0 ∨ (0 ≤ x ∧ 1048576 < x) ∨ (0 ≤ x ∧ x ≤ 1048576) by omega) with h3 | ⟨h3, h4⟩ | ⟨h3, h4⟩
        · have hf := hide (HN.out (.inl h3))
          go_wp2_with fail
          go_ret
          exact ⟨ret_bool (by rw [hf.out]), rfl⟩
        · have hf := hide (HN.out (.inr h4))
          go_wp2_with fail
          go_ret
          exact ⟨ret_bool (by rw [hf.out]), rfl⟩
        · go_wp2_with fail
          go_round
          case rel =>
            refine ⟨q + 1, by omega, by go_num, ?_⟩
            rw [List.take_add_one, Hg.out]
            intro y hy
            rcases List.mem_append.1 hy with hy | hy
            · exact HA.out y hy
            · simp at hy; subst hy; exact ⟨h3, h4⟩
          case measure => simp [intOf]; omega
      · have hok := hide (okW_mk (l := l) (k := k) ⟨by rw [Hl.out]; exact h0, by rw [Hl.out]; exact h1, h2, by have := HA.out; rwa [List.take_of_length_le (by rw [Hl.out]; omega)] at this⟩)
        go_wp2_with fail
        go_ret
        exact ⟨ret_bool (by rw [hok.out]), rfl⟩
  · have hf := hide (okW_no (l := l) (k := k) (fun hh => h ⟨by omega, by omega, hh.2.2.1⟩))
    have hcase : n = 0 ∨ (0 < n ∧ 128 < n) ∨ (0 < n ∧ n ≤ 128 ∧ k < 1) := by omega
    clear h hl hr
    rcases hcase with h | ⟨h, h'⟩ | ⟨h, h', h''⟩
    · subst h
      go_enter Try.func44, Try.ntmps44
      go_wp2_with fail
      go_ret
      exact ⟨ret_bool (by rw [hf.out]), rfl⟩
    · have z0 : ((n : Int) == 0) = false := by rw [beq_eq_false_iff_ne]; omega
      have z1 : decide (128 < n) = true := by simp; omega
      go_enter Try.func44, Try.ntmps44
      go_wp2_with fail
      go_ret
      exact ⟨ret_bool (by rw [hf.out]), rfl⟩
    · have z0 : ((n : Int) == 0) = false := by rw [beq_eq_false_iff_ne]; omega
      have z1 : decide (128 < n) = false := by simp; omega
      go_enter Try.func44, Try.ntmps44
      go_wp2_with fail
      go_ret
      exact ⟨ret_bool (by rw [hf.out]), rfl⟩

set_option maxHeartbeats 1000000 in
theorem zone_need (A : Option Addr) (n c B : Nat) (l : List Int) (k M : Int) (w : World) (hr : Rd w B 1 A n (l.map (Value.int .i64))) (hl : l.length = n) (hok : okW l k = true) (h0 : 0 ≤ M) (h1 : M ≤ 134217728) (hM : ∀ i, i < n → wt l i ≤ M) :
    Calls Try.prog 45 #[.slice A n c, .int .i64 M] w fun e w' => e = .returned (.int .i64 (gz l M n).1) ∧ w = w' := by
  have hn := (okW_yes hok).2.1
  rw [hl] at hn
  have Hl := hide hl
  have Hok := hide hok
  have HM := hide hM
  clear hl hok hM
  go_enter Try.func45, Try.ntmps45
  go_wp2_with fail
  go_loop [5, 6, 11] (fun z s i => ∃ q : Nat, q ≤ n ∧ i = .int .i64 q ∧ z = .int .i64 (gz l M q).1 ∧ s = .int .i64 (gz l M q).2) (fun _ _ i => n - (intOf i).toNat)
  case atStart => exact ⟨0, Nat.zero_le _, rfl, rfl, rfl⟩
  case round =>
    obtain ⟨q, hq, rfl, rfl, rfl⟩ := hrel
    by_cases hlt : q < n
    · obtain ⟨b, off, x, rfl, hb, hg, c0⟩ := hr.int_at Hl.out hlt
      obtain ⟨r1, r2, r3, r4⟩ := gz_range (okW_good Hok.out) h0 q (fun i hi => HM.out i (by omega))
      have hx := okW_wt Hok.out q
      rw [wt_get hg] at hx
      obtain ⟨x0, x1⟩ := hx
      have hst : gz l M (q + 1) = if (gz l M q).2 + x > M then ((gz l M q).1 + 1, x) else ((gz l M q).1, (gz l M q).2 + x) := by simp only [gz, wt_get hg]
      have Hst := hide hst
      clear hst hg hr
      generalize gz l M q = g at *
      obtain ⟨z, s⟩ := g
      simp only at r1 r2 r3 r4 Hst
      by_cases hgt : M < s + x
      · have hE := hide (show gz l M (q + 1) = (z + 1, x) by rw [Hst.out, if_pos hgt])
        clear Hst
        go_wp2_with fail
        go_round
        case rel => exact ⟨q + 1, by omega, by go_num, by rw [hE.out]; go_num, by rw [hE.out]⟩
        case measure => simp [intOf]; omega
      · have hE := hide (show gz l M (q + 1) = (z, s + x) by rw [Hst.out, if_neg hgt])
        clear Hst
        have hle : s + x ≤ M := by omega
        go_wp2_with fail
        go_round
        case rel => exact ⟨q + 1, by omega, by go_num, by rw [hE.out], by rw [hE.out]⟩
        case measure => simp [intOf]; omega
    · obtain rfl : q = n := by omega
      go_wp2_with fail
      go_ret
      exact ⟨rfl, rfl⟩

theorem zone_least_no (A : Option Addr) (n c B : Nat) (l : List Int) (k : Int) (w : World) (hr : Rd w B 1 A n (l.map (Value.int .i64))) (hl : l.length = n) (hok : okW l k = false) :
    Calls Try.prog 23 #[.slice A n c, .int .i64 k] w fun e w' => e = .returned (.tuple #[.int .i64 0, .int .i64 22]) ∧ w = w' := by
  have hC := zone_right A n c B l k w hr hl
  rw [hok] at hC
  have HC := hide hC
  clear hC hok hr hl
  go_enter Try.func23, Try.ntmps23
  go_wp2_with (go_at_call 44; refine (HC.out).mono ?_; rintro e w1 ⟨rfl, rfl⟩)
  go_ret2
  exact ⟨rfl, rfl⟩

set_option maxHeartbeats 2000000 in
theorem zone_least (A : Option Addr) (n c B : Nat) (l : List Int) (k : Int) (w : World) (hr : Rd w B 1 A n (l.map (Value.int .i64))) (hl : l.length = n) (hok : okW l k = true) :
    Calls Try.prog 23 #[.slice A n c, .int .i64 k] w fun e w' => e = .returned (.tuple #[.int .i64 (lst l k.toNat), .int .i64 0]) ∧ w = w' := by
  obtain ⟨hn0, hn, hk, -⟩ := okW_yes hok
  rw [hl] at hn0 hn
  have hC := zone_right A n c B l k w hr hl
  rw [hok] at hC
  have HC := hide hC
  have Hl := hide hl
  have Hok := hide hok
  have Hr := hide hr
  clear hl hok hC
  go_enter Try.func23, Try.ntmps23
  go_wp2_with (go_at_call 44; refine (HC.out).mono ?_; rintro e w1 ⟨rfl, rfl⟩)
  go_loop [6, 7, 17] (fun lo hi i => ∃ q : Nat, q ≤ n ∧ i = .int .i64 q ∧ lo = .int .i64 (mx l q) ∧ hi = .int .i64 (pre l q)) (fun _ _ i => n - (intOf i).toNat)
  case atStart => exact ⟨0, Nat.zero_le _, rfl, rfl, rfl⟩
  case round =>
    obtain ⟨q, hq, rfl, rfl, rfl⟩ := hrel
    by_cases hlt : q < n
    · obtain ⟨b, off, x, rfl, hb, hg, c0⟩ := hr.int_at Hl.out hlt
      have hx := okW_wt Hok.out q
      rw [wt_get hg] at hx
      obtain ⟨x0, x1⟩ := hx
      obtain ⟨p0, p1⟩ := pre_range Hok.out q
      have p2 : pre l q ≤ 134217728 := by omega
      have hE := hide (show mx l (q + 1) = max (mx l q) x ∧ pre l (q + 1) = pre l q + x by simp only [mx, pre, wt_get hg]; exact ⟨trivial, trivial⟩)
      generalize mx l q = u at *
      generalize pre l q = v at *
      clear hg hr p1
      go_wp2_with fail
      go_round
      case rel => exact ⟨q + 1, by omega, by go_num, by rw [hE.out.1], by rw [hE.out.2]⟩
      case measure => simp [intOf]; omega
    · obtain rfl : q = n := by omega
      have hgood := okW_good Hok.out
      have hlN := Hl.out
      have hmx := mx_range Hok.out q
      have hpr := pre_range Hok.out q
      have hpr2 : pre l q ≤ 134217728 := by omega
      have hlo : mx l q ≤ lst l k.toNat := mx_le (lst_nonneg hgood _ (by omega)) q (fun i hi => lst_elem hgood _ i (by omega))
      have hhi : lst l k.toNat ≤ pre l q := by have := lst_sum hgood k.toNat; rwa [hlN] at this
      have hkey : ∀ M : Int, mx l q ≤ M → (lst l k.toNat ≤ M ↔ ((gz l M q).1 : Int) ≤ k) := fun M hM => by
        have := lst_le hgood (k := k.toNat) (by omega) (by omega) (M := M) (by omega) (fun i hi => by have := mx_ge l q i (by omega); omega)
        rw [hlN] at this
        rw [this]; omega
      have HK := hide hkey
      have HX := hide (fun (M : Int) (h : mx l q ≤ M) (i : Nat) (hi : i < q) => Int.le_trans (mx_ge l q i hi) h)
      clear hkey hgood hlN
      generalize hL : lst l k.toNat = L at *
      generalize hu : mx l q = u at *
      generalize hv : pre l q = v at *
      have HLL := hide hL
      clear hL hu hv hpr
      go_wp2_with fail
      go_loop [6, 7] (fun lo hi => ∃ a b : Int, lo = .int .i64 a ∧ hi = .int .i64 b ∧ u ≤ a ∧ b ≤ v ∧ a ≤ L ∧ L ≤ b) (fun lo hi => (intOf hi - intOf lo).toNat)
      case atStart => exact ⟨u, v, rfl, rfl, by omega, by omega, hlo, hhi⟩
      case round =>
        obtain ⟨a, b, rfl, rfl, h1, h2, h3, h4⟩ := hrel
        by_cases hlt : a < b
        · have m0 : a ≤ (a + b) / 2 := by omega
          have m1 : (a + b) / 2 < b := by omega
          have hKM := hide (HK.out ((a + b) / 2) (by omega))
          have hC := hide (zone_need A q c B l k ((a + b) / 2) w Hr.out Hl.out Hok.out (by omega) (by omega) (HX.out _ (by omega)))
          generalize hz : (gz l ((a + b) / 2) q).1 = z at *
          clear hz hr
          by_cases hle : (z : Int) ≤ k
          · have hLM := hKM.out.2 hle
            go_wp2_with (go_at_call 45; refine (hC.out).mono ?_; rintro e w1 ⟨rfl, rfl⟩)
            go_round
            case rel => exact ⟨a, _, rfl, rfl, h1, by omega, h3, hLM⟩
            case measure => simp [intOf]; omega
          · have hLM : ¬ L ≤ (a + b) / 2 := fun h => hle (hKM.out.1 h)
            go_wp2_with (go_at_call 45; refine (hC.out).mono ?_; rintro e w1 ⟨rfl, rfl⟩)
            go_round
            case rel => exact ⟨_, b, rfl, rfl, by omega, h2, by omega, h4⟩
            case measure => simp [intOf]; omega
        · obtain rfl : a = L := by omega
          go_wp2_with fail
          go_ret2
          rw [HLL.out]
          exact ⟨rfl, rfl⟩
end Go.Proofs.Ytalecppofemcnaa
