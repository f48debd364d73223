/-
  The walks of zone.Weigh and zone.Of, and of the law's own example.
-/
import Derived.Test.YtalecppofemcnaaZone2
import Derived.WalkLawsBesides
namespace Go.Proofs.Ytalecppofemcnaa
open Go.RowKit HB ZoneP
set_option linter.unusedVariables false
set_option linter.unusedSimpArgs false
namespace ZoneP
/-- what floors from a to b weigh, of the first q; it wraps -/
def wsum (l : List Int) (a b : Int) : Nat → Int
  | 0 => 0
  | q + 1 => if a ≤ q ∧ (q : Int) < b then wrap64 (wsum l a b q + wt l q) else wsum l a b q
theorem wsum_range (l : List Int) (a b : Int) : ∀ q, -9223372036854775808 ≤ wsum l a b q ∧ wsum l a b q ≤ 9223372036854775807
  | 0 => by simp [wsum]
  | q + 1 => by
    simp only [wsum]
    split
    · unfold wrap64; omega
    · exact wsum_range l a b q
theorem wsum_pre {l : List Int} {k : Int} (h : okW l k = true) (a b : Nat) (hab : a ≤ b) : ∀ q, q ≤ 128 → wsum l a b q = if q ≤ a then 0 else if q ≤ b then pre l q - pre l a else pre l b - pre l a
  | 0, _ => by simp [wsum]
  | q + 1, hq => by
    have ih := wsum_pre h a b hab q (by omega)
    have p0 := pre_range h q
    have p1 := pre_range h a
    have p2 := pre_mono (okW_good h) (m := a) q
    have x := okW_wt h q
    simp only [wsum]
    by_cases h1 : q < a
    · rw [if_neg (by omega), ih, if_pos (by omega), if_pos (by omega)]
    · by_cases h2 : q < b
      · have := p2 (by omega)
        have e : wsum l a b q = pre l q - pre l a := by
          rw [ih]
          by_cases h3 : q ≤ a
          · obtain rfl : q = a := by omega
            simp
          · rw [if_neg h3, if_pos (by omega)]
        rw [if_pos (by omega), e, if_neg (by omega), if_pos (by omega)]
        simp only [pre]
        unfold wrap64; omega
      · rw [if_neg (by omega), ih]
        by_cases h3 : q ≤ a
        · obtain rfl : q = a := by omega
          obtain rfl : q = b := by omega
          rw [if_pos (Nat.le_refl _), if_neg (by omega), if_neg (by omega)]; omega
        · rw [if_neg h3]
          by_cases h4 : q ≤ b
          · obtain rfl : q = b := by omega
            rw [if_pos (Nat.le_refl _), if_neg (by omega), if_neg (by omega)]
          · rw [if_neg h4, if_neg (by omega), if_neg (by omega)]
theorem wsum_all {l : List Int} {k : Int} (h : okW l k = true) (a b : Nat) (hab : a ≤ b) (hb : b ≤ l.length) : wsum l a b l.length = pre l b - pre l a := by
  have := (okW_yes h).2.1
  rw [wsum_pre h a b hab _ this]
  by_cases h1 : l.length ≤ a
  · rw [if_pos h1, show a = b by omega]; omega
  · rw [if_neg h1]
    by_cases h2 : l.length ≤ b
    · rw [if_pos h2, show l.length = b by omega]
    · rw [if_neg h2]
/-- the first zone that has a floor, from place i on -/
def ofz : List (Int × Int) → Int → Nat → Int
  | [], _, _ => -1
  | p :: L, f, i => if p.1 ≤ f ∧ f < p.2 then i else ofz L f (i + 1)
theorem ofz_hit {f : Int} : ∀ (L : List (Int × Int)) (s i : Nat) (p : Int × Int), L[i]? = some p → p.1 ≤ f ∧ f < p.2 → (∀ j q, j < i → L[j]? = some q → ¬ (q.1 ≤ f ∧ f < q.2)) → ofz L f s = ((s + i : Nat) : Int)
  | [], s, i, p, h, _, _ => by simp at h
  | x :: L, s, 0, p, h, hp, _ => by simp at h; subst h; simp [ofz, hp]
  | x :: L, s, i + 1, p, h, hp, hn => by
    have h0 := hn 0 x (by omega) rfl
    have := ofz_hit L (s + 1) i p (by simpa using h) hp (fun j q hj hq => hn (j + 1) q (by omega) (by simpa using hq))
    simp only [ofz, if_neg h0, this]
    congr 1; omega
theorem ofz_miss {f : Int} : ∀ (L : List (Int × Int)) (s : Nat), (∀ (j : Nat) (q : Int × Int), L[j]? = some q → ¬ (q.1 ≤ f ∧ f < q.2)) → ofz L f s = -1
  | [], s, _ => rfl
  | x :: L, s, hn => by
    have h0 := hn 0 x rfl
    simp only [ofz, if_neg h0]
    exact ofz_miss L (s + 1) (fun j q hq => hn (j + 1) q (by simpa using hq))
end ZoneP

set_option maxHeartbeats 1000000 in
theorem zone_weigh (A : Option Addr) (n c B : Nat) (l : List Int) (a b : Int) (w : World) (hr : Rd w B 1 A n (l.map (Value.int .i64))) (hB : B ≤ w.heap.size) (hl : l.length = n) (hn : n ≤ 1000000000) :
    Calls Try.prog 28 #[.slice A n c, .agg #[.int .i64 a, .int .i64 b]] w fun e w' => e = .returned (.int .i64 (wsum l a b n)) ∧ w.alloc (.cells #[.int .i64 a, .int .i64 b] 53) = w' := by
  have Hl := hide hl
  have HR := hide (hr.alloc hB (.cells #[.int .i64 a, .int .i64 b] 53))
  clear hl hr
  go_enter Try.func28, Try.ntmps28
  go_wp2_with fail
  go_loop [5, 10] (fun s i => ∃ q : Nat, q ≤ n ∧ i = .int .i64 q ∧ s = .int .i64 (wsum l a b q)) (fun _ i => n - (intOf i).toNat)
  case atStart => exact ⟨0, Nat.zero_le _, rfl, rfl⟩
  case round =>
    obtain ⟨q, hq, rfl, rfl⟩ := hrel
    by_cases hlt : q < n
    · obtain ⟨b1, off, x, rfl, hb1, hg, c0⟩ := HR.out.int_at Hl.out hlt
      have hst := hide (show wsum l a b (q + 1) = if a ≤ q ∧ (q : Int) < b then wrap64 (wsum l a b q + x) else wsum l a b q by simp only [wsum, wt_get hg])
      generalize wsum l a b q = s at *
      clear hg
      rcases (show (q : Int) < a ∨ (a ≤ q ∧ b ≤ q) ∨ (a ≤ q ∧ (q : Int) < b) by omega) with h | ⟨h, h'⟩ | ⟨h, h'⟩
      · have d1 : decide (a ≤ (q : Int)) = false := by simp; omega
        have hE := hide (show wsum l a b (q + 1) = s by rw [hst.out, if_neg (by omega)])
        clear hst
        go_wp2_with fail
        go_round
        case rel => exact ⟨q + 1, by omega, by go_num, by rw [hE.out]⟩
        case measure => simp [intOf]; omega
      · have d1 : decide (a ≤ (q : Int)) = true := by simp; omega
        have d2 : decide ((q : Int) < b) = false := by simp; omega
        have hE := hide (show wsum l a b (q + 1) = s by rw [hst.out, if_neg (by omega)])
        clear hst
        go_wp2_with fail
        go_round
        case rel => exact ⟨q + 1, by omega, by go_num, by rw [hE.out]⟩
        case measure => simp [intOf]; omega
      · have d1 : decide (a ≤ (q : Int)) = true := by simp; omega
        have d2 : decide ((q : Int) < b) = true := by simp; omega
        have hE := hide (show wsum l a b (q + 1) = wrap64 (s + x) by rw [hst.out, if_pos ⟨h, h'⟩])
        clear hst
        go_wp2_with fail
        go_round
        case rel => exact ⟨q + 1, by omega, by go_num, by rw [hE.out]⟩
        case measure => simp [intOf]; omega
    · obtain rfl : q = n := by omega
      go_wp2_with fail
      go_ret
      exact ⟨rfl, rfl⟩

set_option maxHeartbeats 1000000 in
theorem zone_of (A : Option Addr) (n c B : Nat) (L : List (Int × Int)) (f : Int) (w : World) (hr : Rd w B 2 A n (L.flatMap spn)) (hB : B ≤ w.heap.size) (hl : L.length = n) (hn : n ≤ 1000000) :
    Calls Try.prog 29 #[.slice A n c, .int .i64 f] w fun e w' => e = .returned (.int .i64 (ofz L f 0)) ∧ Below w.heap.size w w' := by
  have Hl := hide hl
  have HR := hide hr
  clear hl hr
  go_enter Try.func29, Try.ntmps29
  go_wp2_with fail
  go_loopw [9] (fun i wr => ∃ q : Nat, q ≤ n ∧ i = .int .i64 q ∧ (∀ j p, j < q → L[j]? = some p → ¬ (p.1 ≤ f ∧ f < p.2)) ∧ Below w.heap.size w wr) (fun i _ => n - (intOf i).toNat)
  case atStart => exact ⟨0, Nat.zero_le _, rfl, fun j p hj => by omega, Below.refl _ _⟩
  case round =>
    obtain ⟨q, hq, rfl, hno, hbel⟩ := hrel
    have HN := hide hno
    have hz := hbel.size
    clear hno
    by_cases hlt : q < n
    · obtain ⟨b, off, x, y, rfl, hb, hg, c0, c1⟩ := (HR.out.below (hbel.mono hB)).span_at Hl.out hlt
      have Hg := hide hg
      have hnx := hide (show ¬ (x ≤ f ∧ f < y) → ∀ j p, j < q + 1 → L[j]? = some p → ¬ (p.1 ≤ f ∧ f < p.2) from fun h j p hj hp => by
        rcases Nat.lt_or_ge j q with h1 | h1
        · exact HN.out j p h1 hp
        · obtain rfl : j = q := by omega
          rw [hg] at hp; cases hp; exact h)
      clear hg
      rcases (show f < x ∨ (x ≤ f ∧ y ≤ f) ∨ (x ≤ f ∧ f < y) by omega) with h | ⟨h, h'⟩ | ⟨h, h'⟩
      · have d1 : decide (x ≤ f) = false := by simp; omega
        go_wp2_with fail
        go_roundw
        case rel => exact ⟨q + 1, by omega, by go_num, hnx.out (by omega), hbel.alloc hz _⟩
        case measure => simp [intOf]; omega
      · have d1 : decide (x ≤ f) = true := by simp; omega
        have d2 : decide (f < y) = false := by simp; omega
        go_wp2_with fail
        go_roundw
        case rel => exact ⟨q + 1, by omega, by go_num, hnx.out (by omega), hbel.alloc hz _⟩
        case measure => simp [intOf]; omega
      · have d1 : decide (x ≤ f) = true := by simp; omega
        have d2 : decide (f < y) = true := by simp; omega
        have hE := hide (ofz_hit L 0 q (x, y) Hg.out ⟨h, h'⟩ HN.out)
        go_wp2_with fail
        go_ret
        exact ⟨ret_int (by rw [hE.out]; simp), hbel.alloc hz _⟩
    · have hE := hide (ofz_miss L 0 (f := f) (fun j p hp => HN.out j p (by have := (List.getElem?_eq_some_iff.1 hp).1; have := Hl.out; omega) hp))
      go_wp2_with fail
      go_ret
      exact ⟨ret_int (by rw [hE.out]), hbel⟩

set_option maxRecDepth 100000 in
set_option maxHeartbeats 2000000 in
theorem zone_alive (w : World) : Calls Try.prog 26 #[] w fun e w' => e = .returned (.bool true) ∧ Below w.heap.size w w' := by
  have hok : okW [3, 1, 4, 1, 5] 2 = true := by decide
  have Hok := hide hok
  have h1 : lst [3, 1, 4, 1, 5] (2 : Int).toNat = 8 := by decide
  have h2 : sp (cl [3, 1, 4, 1, 5] 8 5) = [(0, 3), (3, 5)] := by decide
  have H2 := hide h2
  have H1 := hide h1
  have hC1 := fun (W : World) => zone_least (some ⟨W.heap.size, 0, none⟩) 5 5 _ [3, 1, 4, 1, 5] 2 (W.alloc (.cells #[.int .i64 3, .int .i64 1, .int .i64 4, .int .i64 1, .int .i64 5] 3)) (Rd.new W 3 (xs := [.int .i64 3, .int .i64 1, .int .i64 4, .int .i64 1, .int .i64 5]) rfl) rfl Hok.out
  simp only [h1] at hC1
  have HC1 := hide hC1
  clear hok h1 h2 hC1
  go_enter Try.func26, Try.ntmps26
  go_wp2_with fail
  refine (HC1.out _).mono ?_; rintro e w1 ⟨rfl, rfl⟩
  go_wp2_with fail
  have HN := hide (show Rd ((w.alloc (.cells #[.int .i64 3, .int .i64 1, .int .i64 4, .int .i64 1, .int .i64 5] 3)).alloc (.cells #[.int .i64 3, .int .i64 1, .int .i64 4, .int .i64 1, .int .i64 5] 3)) (w.heap.size + 1 + 1) 1 (some ⟨w.heap.size + 1, 0, none⟩) 5 ([(3 : Int), 1, 4, 1, 5].map (Value.int .i64)) from by
    have := Rd.new (sz := 1) (n := 5) (w.alloc (.cells #[.int .i64 3, .int .i64 1, .int .i64 4, .int .i64 1, .int .i64 5] 3)) 3 (xs := [.int .i64 3, .int .i64 1, .int .i64 4, .int .i64 1, .int .i64 5]) rfl
    rw [World.size_alloc] at this
    exact this)
  refine (zone_cut _ 5 5 _ [3, 1, 4, 1, 5] 2 _ HN.out (by simp) rfl Hok.out).mono ?_; rintro e w2 ⟨v, rfl, hown, hb2⟩
  rw [H1.out, H2.out] at hown
  obtain ⟨A, c, rfl, hc, hrd⟩ : ∃ (A : Option Addr) (c : Nat), v = .slice A 2 c ∧ 2 ≤ c ∧ Rd w2 w2.heap.size 2 A 2 ([((0 : Int), (3 : Int)), (3, 5)].flatMap spn) := hown.spans
  have HR := hide (hrd.alloc (Nat.le_refl _) (.cells #[.int .i64 0, .int .i64 3, .int .i64 3, .int .i64 5] 53))
  have hb := then_ (show Below w.heap.size w _ from by go_grown) hb2 (Nat.le_refl _)
  have hz := hb2.size
  simp at hz
  clear hown hrd hb2
  go_wp2_with fail
  refine (eqSpan_same _ _ _ _ _ _ _ [(0, 3), (3, 5)] _ HR.out (Rd.new w2 53 (xs := [.int .i64 0, .int .i64 3, .int .i64 3, .int .i64 5]) rfl) rfl (by omega)).mono ?_; rintro e w3 ⟨rfl, m, rfl⟩
  go_wp2_with fail
  go_ret
  exact ⟨rfl, below_drewN (hb.alloc (by omega) _) _⟩
end Go.Proofs.Ytalecppofemcnaa
