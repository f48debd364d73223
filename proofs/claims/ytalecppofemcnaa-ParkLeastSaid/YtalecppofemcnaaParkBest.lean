/-
  The walk of park.Best.
-/
import Derived.Test.YtalecppofemcnaaParkTab
import Derived.BigQuiet
namespace Go.Proofs.Ytalecppofemcnaa
open Go.RowKit HB ParkP
set_option linter.unusedVariables false
set_option linter.unusedSimpArgs false
namespace ParkP
theorem tm_le (l : List Int) (b : Nat → Int) (n : Nat) : ∀ m, m ≤ n → (tm l b n m).2 ≤ n
  | 0, _ => by simp [tm]
  | m + 1, hm => by
    have ih := tm_le l b n m (by omega)
    simp only [tm]
    split
    · exact ih
    · split
      · simp only []; omega
      · exact ih
theorem tl_le (l : List Int) : ∀ c n, tl l c n ≤ n
  | 0, n => Nat.zero_le _
  | c + 1, n => by
    simp only [tl]
    split
    · omega
    · exact tm_le l _ n n (Nat.le_refl _)
theorem bst_range (l : List Int) (n K : Nat) (hK : 1 ≤ K) : ∀ c, c ≤ K + 1 → 1 ≤ bst l n c ∧ bst l n c ≤ K
  | 0, _ => by simp [bst]; omega
  | c + 1, hc => by
    have ih := bst_range l n K hK c (by omega)
    simp only [bst]
    split
    · omega
    · exact ih
end ParkP
theorem TB.readc {l : List Int} {W : World} {B H0 gc gl K n : Nat} {rc rl : Nat → Nat} (h : TB l W B H0 gc gl K n (K + 1) (K + 1) rc rl) {c v : Nat} (hc : c < K + 1) (hv : v ≤ n) : W.cell? ⟨gc, c, none⟩ = some (hd n (rc c)) ∧ W.cell? ⟨rc c, v, none⟩ = some (.int .i64 (tc l c v)) := by
  have a := (h.1.1.cell hc).1
  rw [if_pos hc] at a
  exact ⟨a, ((h.2.2.2.2 c hc).1.2.cell hv).1⟩
theorem TB.readl {l : List Int} {W : World} {B H0 gc gl K n : Nat} {rc rl : Nat → Nat} (h : TB l W B H0 gc gl K n (K + 1) (K + 1) rc rl) {c v : Nat} (hc : c < K + 1) (hv : v ≤ n) : W.cell? ⟨gl, c, none⟩ = some (hd n (rl c)) ∧ W.cell? ⟨rl c, v, none⟩ = some (.int .i64 (tl l c v : Int)) := by
  have a := (h.1.2.cell hc).1
  rw [if_pos hc] at a
  exact ⟨a, ((h.2.2.2.2 c hc).2.2.cell hv).1⟩
theorem park_best_no (A : Option Addr) (n c B : Nat) (l : List Int) (k : Int) (w : World) (hr : Rd w B 1 A n (l.map (Value.int .i64))) (hl : l.length = n) (hn : n ≤ 9223372036854775807) (h : okP l = false ∨ k < 1) :
    Calls Try.prog 30 #[.slice A n c, .int .i64 k] w fun e w' => e = .returned (.tuple #[.slice none 0 0, .int .i64 0, .int .i64 22]) ∧ w = w' := by
  have hC := park_right A n c B l w hr hl hn
  cases hok : okP l with
  | false =>
    rw [hok] at hC
    have HC := hide hC
    clear hC hok hr hl h
    go_enter Try.func30, Try.ntmps30
    go_wp2_with (go_at_call 47; refine (HC.out).mono ?_; rintro e w1 ⟨rfl, rfl⟩)
    go_ret3
    exact ⟨rfl, rfl⟩
  | true =>
    rw [hok] at hC
    have HC := hide hC
    have hk : k < 1 := by rcases h with h | h; · rw [hok] at h; cases h
                          · exact h
    clear hC hok hr hl h
    go_enter Try.func30, Try.ntmps30
    go_wp2_with (go_at_call 47; refine (HC.out).mono ?_; rintro e w1 ⟨rfl, rfl⟩)
    go_ret3
    exact ⟨rfl, rfl⟩
def Best.Post (l : List Int) (n K : Nat) (w : World) (e : Ending) (w' : World) : Prop :=
  ∃ v, e = .returned (.tuple #[v, .int .i64 (tc l (bst l n (K + 1)) n), .int .i64 0]) ∧ Own w' w.heap.size 3 1 (num .i64) v (reco l (bst l n (K + 1)) n) ∧ Below w.heap.size w w'
set_option maxRecDepth 100000 in
set_option maxHeartbeats 8000000 in
theorem park_best (A : Option Addr) (n c B K : Nat) (l : List Int) (k : Int) (w : World) (hr : Rd w B 1 A n (l.map (Value.int .i64))) (hB : B ≤ w.heap.size) (hl : l.length = n) (hok : okP l = true) (hk : 1 ≤ k) (hK : min k (n : Int) = (K : Int)) :
    Calls Try.prog 30 #[.slice A n c, .int .i64 k] w (Best.Post l n K w) := by
  have hn := (okP_yes hok).2.1
  have hn0 := (okP_yes hok).1
  rw [hl] at hn hn0
  have hKn : K ≤ n := by omega
  have hK1 : 1 ≤ K := by omega
  have hC := park_right A n c B l w hr hl (by omega)
  rw [hok] at hC
  have HC := hide hC
  have HT := hide (park_table A n c B K l w hr hB hl hok hKn)
  have HKE := hide hK
  have Hl := hide hl
  have Hok := hide hok
  have HR := hide hr
  clear hl hok hr hC
  go_enter Try.func30, Try.ntmps30
  go_wp2_with (go_at_call 47; refine (HC.out).mono ?_; rintro e w1 ⟨rfl, rfl⟩)
  clear hK
  refine (HT.out).mono ?_; rintro e w1 ⟨H0, gc, gl, rc, rl, rfl, htb, hb1⟩
  have HTB := hide htb
  have HTX := hide (fun (W : World) (hb : Below w1.heap.size w1 W) => htb.below hb (by have := (htb.2.2.2.2 0 (by omega)).1; have := this.2.2.2; omega) htb.lt)
  have hz1 := hb1.size
  clear htb
  go_wp2_with fail
  go_loopw [9, 35] (fun x i wr => ∃ q : Nat, q ≤ K + 1 ∧ i = .int .i64 q ∧ x = .int .i64 (bst l n q) ∧ Below w1.heap.size w1 wr) (fun _ i _ => K + 1 - (intOf i).toNat)
  case atStart => exact ⟨0, Nat.zero_le _, rfl, rfl, Below.refl _ _⟩
  case round =>
    obtain ⟨q, hq, rfl, rfl, hbel⟩ := hrel
    have hbr := bst_range l n K hK1 q hq
    have HBW := hide (hb1.trans (hbel.mono hz1))
    by_cases hlt : q < K + 1
    · obtain ⟨a1, a2⟩ := (HTX.out wr hbel).readc hlt (Nat.le_refl n)
      obtain ⟨b1, b2⟩ := (HTX.out wr hbel).readc (show bst l n q < K + 1 by omega) (Nat.le_refl n)
      have hst := hide (show bst l n (q + 1) = if 0 < q ∧ 0 ≤ tc l q n ∧ tc l q n < tc l (bst l n q) n then q else bst l n q from rfl)
      generalize bst l n q = p at *
      generalize tc l q n = x at *
      generalize tc l p n = y at *
      have i0 : (0 : Int) ≤ (q : Int) := by omega
      have i1 : (q : Int) < (K : Int) + 1 := by omega
      have i2 : (0 : Int) ≤ (p : Int) := by omega
      have i3 : (p : Int) < (K : Int) + 1 := by omega
      have i4 : (n : Int) < (n : Int) + 1 := by omega
      have i5 : (0 : Int) ≤ (n : Int) := by omega
      rcases (show q = 0 ∨ (0 < q ∧ x < 0) ∨ (0 < q ∧ 0 ≤ x ∧ y ≤ x) ∨ (0 < q ∧ 0 ≤ x ∧ x < y) by omega) with h | ⟨h, h'⟩ | ⟨h, h', h''⟩ | ⟨h, h', h''⟩
      · have d1 : decide (0 < q) = false := by simp; omega
        have d2 : decide ((0 : Int) < (q : Int)) = false := by simp; omega
        have hE := hide (show bst l n (q + 1) = p by rw [hst.out, if_neg (by omega)])
        clear hst h
        go_wp2_with fail
        go_quiet (fail)
        go_wp2_with fail
        go_roundw
        case rel => exact ⟨q + 1, by omega, by go_num, by rw [hE.out], below_drewN hbel _⟩
        case measure => simp [intOf]; omega
      · have d1 : decide (0 < q) = true := by simpa using h
        have d2 : decide ((0 : Int) < (q : Int)) = true := by simp; omega
        have d3 : decide (0 ≤ x) = false := by simp; omega
        have hE := hide (show bst l n (q + 1) = p by rw [hst.out, if_neg (by omega)])
        clear hst
        go_wp2_with fail
        go_quiet (fail)
        go_wp2_with fail
        go_roundw
        case rel => exact ⟨q + 1, by omega, by go_num, by rw [hE.out], below_drewN hbel _⟩
        case measure => simp [intOf]; omega
      · have d1 : decide (0 < q) = true := by simpa using h
        have d2 : decide ((0 : Int) < (q : Int)) = true := by simp; omega
        have d3 : decide (0 ≤ x) = true := by simpa using h'
        have d4 : decide (x < y) = false := by simp; omega
        have hE := hide (show bst l n (q + 1) = p by rw [hst.out, if_neg (by omega)])
        clear hst
        go_wp2_with fail
        go_quiet (fail)
        go_wp2_with fail
        go_roundw
        case rel => exact ⟨q + 1, by omega, by go_num, by rw [hE.out], below_drewN hbel _⟩
        case measure => simp [intOf]; omega
      · have d1 : decide (0 < q) = true := by simpa using h
        have d2 : decide ((0 : Int) < (q : Int)) = true := by simp; omega
        have d3 : decide (0 ≤ x) = true := by simpa using h'
        have d4 : decide (x < y) = true := by simpa using h''
        have hE := hide (show bst l n (q + 1) = q by rw [hst.out, if_pos (by omega)])
        clear hst
        go_wp2_with fail
        go_quiet (fail)
        go_wp2_with fail
        go_roundw
        case rel => exact ⟨q + 1, by omega, by go_num, by rw [hE.out], below_drewN hbel _⟩
        case measure => simp [intOf]; omega
    · obtain rfl : q = K + 1 := by omega
      generalize hp : bst l n (K + 1) = p at *
      have HP := hide hp
      clear hp
      go_wp2_with fail
      go_loopw [11, 12, 13] (fun o i j wr => ∃ (d q : Nat) (L : List Int), d ≤ K ∧ q ≤ n ∧ i = .int .i64 d ∧ j = .int .i64 q ∧ reco l p n = reco l d q ++ L ∧ L.length + d ≤ 200 ∧ Own wr w1.heap.size 3 1 (num .i64) o L ∧ Below w1.heap.size w1 wr) (fun _ i _ _ => (intOf i).toNat)
      case atStart => exact ⟨p, n, [], by omega, Nat.le_refl _, rfl, rfl, by simp, by simp; omega, Own.nil _ _ _ _ _, hbel⟩
      case round =>
        clear HBW hbel
        obtain ⟨d, q, L, hd, hq, rfl, rfl, hre, hLd, hown, hbel⟩ := hrel
        have HO := hide hown
        have HRE := hide hre
        have hzr := hbel.size
        have HBW := hide (hb1.trans (hbel.mono hz1))
        clear hown hre
        by_cases hd0 : 0 < d
        · obtain ⟨D, hD⟩ : ∃ D, D = d - 1 := ⟨d - 1, rfl⟩
          obtain ⟨z, hz⟩ : ∃ z, z = q - tl l d q := ⟨_, rfl⟩
          have htq := tl_le l d q
          have HRD := hide (show reco l d q = reco l D z ++ [((one l z q).1 : Int)] by
            obtain rfl : d = D + 1 := by omega
            subst hz; rfl)
          obtain ⟨a1, a2⟩ := (HTX.out wr hbel).readl (show d < K + 1 by omega) hq
          have HRL := hide (fun (W : World) (hb : Below w1.heap.size w1 W) => (HTX.out W hb).readl (show d < K + 1 by omega) hq)
          have hone := hide (park_one A n c B l z q wr (HR.out.below (HBW.out.mono hB)) (by have := HBW.out.size; omega) Hl.out Hok.out (by omega) hq)
          have e1 : IntKind.i64.wrap ((q : Int) - (tl l d q : Nat)) = (z : Int) := by
            rw [show (q : Int) - (tl l d q : Nat) = (z : Int) by omega]; exact IntWalk.i64_in _ (by omega)
          have e2 : IntKind.i64.wrap ((d : Int) - 1) = (D : Int) := by
            rw [show (d : Int) - 1 = (D : Int) by omega]; exact IntWalk.i64_in _ (by omega)
          have HZ := hide (show z ≤ q ∧ D + 1 = d by omega)
          have i0 : (0 : Int) < (d : Int) := by omega
          have i1 : (0 : Int) ≤ (d : Int) := by omega
          have i2 : (d : Int) < (K : Int) + 1 := by omega
          have i3 : (0 : Int) ≤ (q : Int) := by omega
          have i4 : (q : Int) < (n : Int) + 1 := by omega
          have d1 : decide ((0 : Int) < (d : Int)) = true := by simpa using hd0
          clear hz hD htq
          generalize tl l d q = t at *
          generalize one l z q = F at *
          have HE2 := hide e2
          clear e2
          obtain ⟨AO, cO, rfl, hcO, hrO⟩ := HO.out.shape
          go_wp2_with (first | (go_at_call 49; refine (hone.out).mono ?_; rintro e w2 ⟨rfl, hb2⟩; have hz2 := hb2.size) | (at_builtin; refine pushAll rfl _ _ 26 rfl Try.underlying26 Zone.iinfo rfl (by omega) (by omega) rfl (Own.block (base := w1.heap.size) (f := num .i64) (sz := 1) w2 3 #[.int .i64 F.1] [(F.1 : Int)] (by omega) rfl (fun _ => rfl) (by simp)) L wr.heap.size AO L.length cO rfl rfl ((hrO.below hb2).alloc hz2 _) (by rw [map_flat]; intro u hu; obtain ⟨z, _, rfl⟩ := List.mem_map.1 hu; rfl) (by simp) (by omega) (by simp; omega) ?_; intro v w3 hown3 hb3; have hb3' : Below w1.heap.size w1 w3 := (hbel.trans (hb2.mono hzr)).trans (((Below.refl w1.heap.size w2).alloc (by omega) _).trans hb3); obtain ⟨a3, a4⟩ := HRL.out w3 hb3'; have HO3 := hide hown3; have HB3 := hide hb3'; have e2 := HE2.out; clear hown3 hb3 hb3'))
          go_roundw
          case rel => first | exact ⟨D, z, ((F.1 : Int) :: L), by have := HZ.out; omega, by have := HZ.out; omega, rfl, rfl, by rw [HRE.out, HRD.out]; simp, by have := HZ.out; simp; omega, by simpa using HO3.out, HB3.out⟩ | ((repeat apply Exists.intro); exact ⟨⟨D, z, ((F.1 : Int) :: L), by have := HZ.out; omega, by have := HZ.out; omega, rfl, rfl, by rw [HRE.out, HRD.out]; simp, by have := HZ.out; simp; omega, by simpa using HO3.out, HB3.out⟩, rfl⟩)
          case measure => have := HZ.out; simp [intOf]; omega
        · obtain rfl : d = 0 := by omega
          obtain ⟨b1, b2⟩ := (HTX.out wr hbel).readc (show p < K + 1 by omega) (Nat.le_refl n)
          have i2 : (0 : Int) ≤ (p : Int) := by omega
          have i3 : (p : Int) < (K : Int) + 1 := by omega
          have i4 : (n : Int) < (n : Int) + 1 := by omega
          have i5 : (0 : Int) ≤ (n : Int) := by omega
          go_wp2_with fail
          go_quiet (fail)
          go_wp2_with fail
          go_ret3
          have hp := HP.out
          subst hp
          exact ⟨_, rfl, by rw [HRE.out]; exact (HO.out.small hz1).drewN _, below_drewN HBW.out _⟩
end Go.Proofs.Ytalecppofemcnaa
