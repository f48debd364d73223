/-
  The law WordsDraw, way by way.
-/
import Derived.Test.YtikdkljknbgphaaMany
namespace Go.Proofs.Ytikdkljknbgphaa
open Go.RowKit HB PickP
set_option linter.unusedVariables false
set_option linter.unusedSimpArgs false

theorem words_left_b (A : Option Addr) (n c : Nat) (at_ : Int) (hn : n ≤ 1000000000) (w : World) :
    Calls Try.prog 52 #[Words.st A n c at_] w fun e w' => e = .returned (.int .i64 (Words.left at_ n)) ∧ Below w.heap.size w w' :=
  (words_left A n c at_ hn w).mono fun _ _ ⟨he, hw⟩ => ⟨he, hw ▸ (Below.refl _ _).alloc (Nat.le_refl _) _⟩

theorem eqU32_b (A A' : Option Addr) (n n' c c' B B' : Nat) (xs ys : List Int) (w : World) (hx : Rd w B 1 A n (xs.map (Value.int .u32))) (hy : Rd w B' 1 A' n' (ys.map (Value.int .u32))) (hn : n ≤ 1000000000) (hn' : n' ≤ 1000000000) :
    Calls Try.prog 25 #[.slice A n c, .slice A' n' c'] w fun e w' => e = .returned (.bool (decide (xs = ys))) ∧ Below w.heap.size w w' :=
  (eqU32 A A' n n' c c' B B' xs ys w hx hy hn hn').mono fun _ _ ⟨he, _, hw⟩ => ⟨he, hw ▸ below_drewN (Below.refl _ _) _⟩

set_option maxRecDepth 100000 in
set_option maxHeartbeats 8000000 in
theorem wd_dry_neg (A : Option Addr) (n c : Nat) (ws : List Int) (at_ : Int) (m : Int) (w : World) (hr : Rd w w.heap.size 1 A n (ws.map (Value.int .u32))) (hn : n ≤ 1000) (hd : at_ < 0 ∨ (n : Int) ≤ at_) (hm : m < 0) :
    Calls Try.prog 14 #[Words.st A n c at_, .int .i64 m] w fun e w' => e = .returned (.bool true) ∧ Below w.heap.size w w' := by
  have D := hide hd
  have L := hide (show Words.left at_ n = 0 by unfold Words.left; split <;> omega)
  have dn : decide (1000 < n) = false := by simp; omega
  clear hd
  go_enter Try.func14, Try.ntmps14
  go_wp2_with fail
  refine (words_next_dry A n c at_ (by omega) _ D.out).mono ?_; rintro e w1 ⟨rfl, hb1⟩
  have k0 := hold1 hb1 (p := ⟨w.heap.size, 0, none⟩) (v := .slice A n c) (by simp)
  have k1 := hold1 hb1 (p := ⟨w.heap.size, 1, none⟩) (v := .int .i64 at_) (by simp)
  have z0 := sizes (szb (k := w.heap.size) hb1 (by simp))
  have hB := then_ (show Below w.heap.size w _ from by go_grown) hb1 (Nat.le_refl _)
  clear hb1
  go_wp2_with fail
  refine (left_law A n c at_ (by omega) _).mono ?_; rintro e w2 ⟨rfl, hb2⟩; simp only [L.out]
  have q0 := hold1 hb2 (p := ⟨w.heap.size, 0, none⟩) (v := .slice A n c) (by simp [go_sem, *])
  have q1 := hold1 hb2 (p := ⟨w.heap.size, 1, none⟩) (v := .int .i64 at_) (by simp [go_sem, *])
  have q2 := hold1 hb2 (p := ⟨w1.heap.size, 0, none⟩) (v := .slice A n c) (by simp)
  have q3 := hold1 hb2 (p := ⟨w1.heap.size, 1, none⟩) (v := .int .i64 at_) (by simp)
  have hB2 := then_ (hB.alloc z0.2.1 _) hb2 (Nat.le_refl _)
  clear hb2 k0 k1 hB
  have HR := hide (hr.below hB2)
  go_wp2_with fail
  refine (same_law A n c w.heap.size at_ ws (by omega) _ HR.out hB2.size).mono ?_; rintro e w3 ⟨rfl, hb3⟩
  have r0 := hold1 hb3 q0
  have r1 := hold1 hb3 q1
  have hB3 := then_ hB2 hb3 (Nat.le_refl _)
  have z3 := sizes (szb (k := w.heap.size) hb3 (World.block_lt_of_cell? _ _ q0))
  clear hb3 q0 q1 q2 q3 hB2 HR z0
  go_wp2_with fail
  refine (many_neg A n c at_ m hm _).mono ?_; rintro e w4 ⟨rfl, hb4⟩
  have p0 := hold1 hb4 (p := ⟨w.heap.size, 0, none⟩) (v := .slice A n c) (by simp [go_sem, *])
  have p1 := hold1 hb4 (p := ⟨w.heap.size, 1, none⟩) (v := .int .i64 at_) (by simp [go_sem, *])
  have hB4 := then_ hB3 hb4 (Nat.le_refl _)
  have z4 := sizes (szb (k := w.heap.size) hb4 (by simp [*]))
  clear hb4 r0 r1 hB3 z3
  go_wp2_with fail
  refine letter (w := w) (fun W => W.cell? ⟨w.heap.size, 0, none⟩ = some (.slice A n c) ∧ W.cell? ⟨w.heap.size, 1, none⟩ = some (.int .i64 at_) ∧ W.cell? ⟨w4.heap.size, 0, none⟩ = some (.slice A n c) ∧ W.cell? ⟨w4.heap.size, 1, none⟩ = some (.int .i64 at_)) (by simp [go_sem, *]) (hB4.alloc z4.2.1 _) (by simp [*]) ?_
  have hne : w.heap.size ≠ w4.heap.size := by omega
  clear p0 p1 hB4 z4
  generalize w4.heap.size = g at *
  rintro w5 ⟨u0, u1, u2, u3⟩ hB5 hz5
  go_region_held3 (fun w' => w'.cell? ⟨w.heap.size, 0, none⟩ = some (.slice A n c) ∧ w'.cell? ⟨w.heap.size, 1, none⟩ = some (.int .i64 at_) ∧ w'.cell? ⟨g, 0, none⟩ = some (.slice A n c) ∧ w'.cell? ⟨g, 1, none⟩ = some (.int .i64 at_)) (first | (go_split_ands; with_reducible exact ⟨hold1 hbd ‹_›, hold1 hbd ‹_›, hold1 hbd ‹_›, hold1 hbd ‹_›⟩) | (go_split_ands; with_reducible exact ⟨hold1 hbb ‹_›, hold1 hbb ‹_›, hold1 hbb ‹_›, hold1 hbb ‹_›⟩) | (go_split_ands; with_reducible exact ⟨hold1 hba ‹_›, hold1 hba ‹_›, hold1 hba ‹_›, hold1 hba ‹_›⟩) | go_keep)
    (first
      | (go_at_call 52; refine (words_left_b A n c at_ (by omega) _).mono ?_; rintro e wa ⟨rfl, hba⟩; simp only [L.out])
      | (go_at_call 49; refine (left_law A n c at_ (by omega) _).mono ?_; rintro e wb ⟨rfl, hbb⟩; simp only [L.out])
      | (go_at_call 47; refine (same_law A n c w.heap.size at_ ws (by omega) _ (hr.below (then_ (then_ hB5.drew hba (Nat.le_refl _)) hbb (Nat.le_refl _))) (then_ (then_ hB5.drew hba (Nat.le_refl _)) hbb (Nat.le_refl _)).size).mono ?_; rintro e wd ⟨rfl, hbd⟩)
      | (go_at_call 48; refine (words_alive _).mono ?_; rintro e w' ⟨rfl, rfl⟩))
  all_goals
    go_wp2_with fail
    go_ret
    exact ⟨rfl, then_ (then_ (then_ hB5.drew hba (Nat.le_refl _)) hbb (Nat.le_refl _)) hbd (Nat.le_refl _)⟩

set_option maxRecDepth 100000 in
set_option maxHeartbeats 8000000 in
theorem wd_dry_over (A : Option Addr) (n c : Nat) (ws : List Int) (at_ : Int) (m : Int) (w : World) (hr : Rd w w.heap.size 1 A n (ws.map (Value.int .u32))) (hn : n ≤ 1000) (hd : at_ < 0 ∨ (n : Int) ≤ at_) (hm0 : 0 ≤ m) (hm : 0 < m) :
    Calls Try.prog 14 #[Words.st A n c at_, .int .i64 m] w fun e w' => e = .returned (.bool true) ∧ Below w.heap.size w w' := by
  have D := hide hd
  have L := hide (show Words.left at_ n = 0 by unfold Words.left; split <;> omega)
  have dn : decide (1000 < n) = false := by simp; omega
  clear hd
  go_enter Try.func14, Try.ntmps14
  go_wp2_with fail
  refine (words_next_dry A n c at_ (by omega) _ D.out).mono ?_; rintro e w1 ⟨rfl, hb1⟩
  have k0 := hold1 hb1 (p := ⟨w.heap.size, 0, none⟩) (v := .slice A n c) (by simp)
  have k1 := hold1 hb1 (p := ⟨w.heap.size, 1, none⟩) (v := .int .i64 at_) (by simp)
  have z0 := sizes (szb (k := w.heap.size) hb1 (by simp))
  have hB := then_ (show Below w.heap.size w _ from by go_grown) hb1 (Nat.le_refl _)
  clear hb1
  go_wp2_with fail
  refine (left_law A n c at_ (by omega) _).mono ?_; rintro e w2 ⟨rfl, hb2⟩; simp only [L.out]
  have q0 := hold1 hb2 (p := ⟨w.heap.size, 0, none⟩) (v := .slice A n c) (by simp [go_sem, *])
  have q1 := hold1 hb2 (p := ⟨w.heap.size, 1, none⟩) (v := .int .i64 at_) (by simp [go_sem, *])
  have q2 := hold1 hb2 (p := ⟨w1.heap.size, 0, none⟩) (v := .slice A n c) (by simp)
  have q3 := hold1 hb2 (p := ⟨w1.heap.size, 1, none⟩) (v := .int .i64 at_) (by simp)
  have hB2 := then_ (hB.alloc z0.2.1 _) hb2 (Nat.le_refl _)
  clear hb2 k0 k1 hB
  have HR := hide (hr.below hB2)
  go_wp2_with fail
  refine (same_law A n c w.heap.size at_ ws (by omega) _ HR.out hB2.size).mono ?_; rintro e w3 ⟨rfl, hb3⟩
  have r0 := hold1 hb3 q0
  have r1 := hold1 hb3 q1
  have hB3 := then_ hB2 hb3 (Nat.le_refl _)
  have z3 := sizes (szb (k := w.heap.size) hb3 (World.block_lt_of_cell? _ _ q0))
  clear hb3 q0 q1 q2 q3 hB2 HR z0
  go_wp2_with fail
  refine (many_dry A n c at_ m (by omega) hm0 (by rw [L.out]; exact hm) _).mono ?_; rintro e w4 ⟨rfl, hb4⟩
  have p0 := hold1 hb4 (p := ⟨w.heap.size, 0, none⟩) (v := .slice A n c) (by simp [go_sem, *])
  have p1 := hold1 hb4 (p := ⟨w.heap.size, 1, none⟩) (v := .int .i64 at_) (by simp [go_sem, *])
  have hB4 := then_ hB3 hb4 (Nat.le_refl _)
  have z4 := sizes (szb (k := w.heap.size) hb4 (by simp [*]))
  clear hb4 r0 r1 hB3 z3
  go_wp2_with fail
  refine (left_law A n c at_ (by omega) _).mono ?_; rintro e w5 ⟨rfl, hb5⟩; simp only [L.out]
  have u0 := hold1 hb5 (p := ⟨w.heap.size, 0, none⟩) (v := .slice A n c) (by simp [go_sem, *])
  have u1 := hold1 hb5 (p := ⟨w.heap.size, 1, none⟩) (v := .int .i64 at_) (by simp [go_sem, *])
  have u2 := hold1 hb5 (p := ⟨w4.heap.size, 0, none⟩) (v := .slice A n c) (by simp)
  have u3 := hold1 hb5 (p := ⟨w4.heap.size, 1, none⟩) (v := .int .i64 at_) (by simp)
  have hB5 := then_ (hB4.alloc z4.2.1 _) hb5 (Nat.le_refl _)
  clear hb5 p0 p1 hB4
  have hz5 := World.block_lt_of_cell? _ _ u0
  have hz6 := World.block_lt_of_cell? _ _ u2
  have hne : w.heap.size ≠ w4.heap.size := by omega
  generalize w4.heap.size = g at *
  go_wp2_with fail
  go_region_held3 (fun w' => w'.cell? ⟨w.heap.size, 0, none⟩ = some (.slice A n c) ∧ w'.cell? ⟨w.heap.size, 1, none⟩ = some (.int .i64 at_) ∧ w'.cell? ⟨g, 0, none⟩ = some (.slice A n c) ∧ w'.cell? ⟨g, 1, none⟩ = some (.int .i64 at_)) (first | (go_split_ands; with_reducible exact ⟨hold1 hbd ‹_›, hold1 hbd ‹_›, hold1 hbd ‹_›, hold1 hbd ‹_›⟩) | (go_split_ands; with_reducible exact ⟨hold1 hbb ‹_›, hold1 hbb ‹_›, hold1 hbb ‹_›, hold1 hbb ‹_›⟩) | (go_split_ands; with_reducible exact ⟨hold1 hba ‹_›, hold1 hba ‹_›, hold1 hba ‹_›, hold1 hba ‹_›⟩) | go_keep)
    (first
      | (go_at_call 52; refine (words_left_b A n c at_ (by omega) _).mono ?_; rintro e wa ⟨rfl, hba⟩; simp only [L.out])
      | (go_at_call 49; refine (left_law A n c at_ (by omega) _).mono ?_; rintro e wb ⟨rfl, hbb⟩; simp only [L.out])
      | (go_at_call 47; refine (same_law A n c w.heap.size at_ ws (by omega) _ (hr.below (then_ (then_ hB5.drew hba (Nat.le_refl _)) hbb (Nat.le_refl _))) (then_ (then_ hB5.drew hba (Nat.le_refl _)) hbb (Nat.le_refl _)).size).mono ?_; rintro e wd ⟨rfl, hbd⟩)
      | (go_at_call 48; refine (words_alive _).mono ?_; rintro e w' ⟨rfl, rfl⟩))
  all_goals
    go_wp2_with fail
    go_ret
    exact ⟨rfl, then_ (then_ (then_ hB5.drew hba (Nat.le_refl _)) hbb (Nat.le_refl _)) hbd (Nat.le_refl _)⟩

set_option maxRecDepth 100000 in
set_option maxHeartbeats 8000000 in
theorem wd_dry_zero (A : Option Addr) (n c : Nat) (ws : List Int) (at_ : Int)  (w : World) (hr : Rd w w.heap.size 1 A n (ws.map (Value.int .u32))) (hn : n ≤ 1000) (hd : at_ < 0 ∨ (n : Int) ≤ at_) :
    Calls Try.prog 14 #[Words.st A n c at_, .int .i64 0] w fun e w' => e = .returned (.bool true) ∧ Below w.heap.size w w' := by
  have D := hide hd
  have L := hide (show Words.left at_ n = 0 by unfold Words.left; split <;> omega)
  have dn : decide (1000 < n) = false := by simp; omega
  clear hd
  go_enter Try.func14, Try.ntmps14
  go_wp2_with fail
  refine (words_next_dry A n c at_ (by omega) _ D.out).mono ?_; rintro e w1 ⟨rfl, hb1⟩
  have k0 := hold1 hb1 (p := ⟨w.heap.size, 0, none⟩) (v := .slice A n c) (by simp)
  have k1 := hold1 hb1 (p := ⟨w.heap.size, 1, none⟩) (v := .int .i64 at_) (by simp)
  have z0 := sizes (szb (k := w.heap.size) hb1 (by simp))
  have hB := then_ (show Below w.heap.size w _ from by go_grown) hb1 (Nat.le_refl _)
  clear hb1
  go_wp2_with fail
  refine (left_law A n c at_ (by omega) _).mono ?_; rintro e w2 ⟨rfl, hb2⟩; simp only [L.out]
  have q0 := hold1 hb2 (p := ⟨w.heap.size, 0, none⟩) (v := .slice A n c) (by simp [go_sem, *])
  have q1 := hold1 hb2 (p := ⟨w.heap.size, 1, none⟩) (v := .int .i64 at_) (by simp [go_sem, *])
  have q2 := hold1 hb2 (p := ⟨w1.heap.size, 0, none⟩) (v := .slice A n c) (by simp)
  have q3 := hold1 hb2 (p := ⟨w1.heap.size, 1, none⟩) (v := .int .i64 at_) (by simp)
  have hB2 := then_ (hB.alloc z0.2.1 _) hb2 (Nat.le_refl _)
  clear hb2 k0 k1 hB
  have HR := hide (hr.below hB2)
  go_wp2_with fail
  refine (same_law A n c w.heap.size at_ ws (by omega) _ HR.out hB2.size).mono ?_; rintro e w3 ⟨rfl, hb3⟩
  have r0 := hold1 hb3 q0
  have r1 := hold1 hb3 q1
  have hB3 := then_ hB2 hb3 (Nat.le_refl _)
  have z3 := sizes (szb (k := w.heap.size) hb3 (World.block_lt_of_cell? _ _ q0))
  clear hb3 q0 q1 q2 q3 hB2 HR z0
  go_wp2_with fail
  refine (many_zero A n c at_ (by omega) _).mono ?_; rintro e w4 ⟨rfl, hb4⟩
  have p0 := hold1 hb4 (p := ⟨w.heap.size, 0, none⟩) (v := .slice A n c) (by simp [go_sem, *])
  have p1 := hold1 hb4 (p := ⟨w.heap.size, 1, none⟩) (v := .int .i64 at_) (by simp [go_sem, *])
  have hB4 := then_ hB3 hb4 (Nat.le_refl _)
  have z4 := sizes (szb (k := w.heap.size) hb4 (by simp [*]))
  clear hb4 r0 r1 hB3 z3
  go_wp2_with fail
  refine (left_law A n c at_ (by omega) _).mono ?_; rintro e w5 ⟨rfl, hb5⟩; simp only [L.out]
  have u0 := hold1 hb5 (p := ⟨w.heap.size, 0, none⟩) (v := .slice A n c) (by simp [go_sem, *])
  have u1 := hold1 hb5 (p := ⟨w.heap.size, 1, none⟩) (v := .int .i64 at_) (by simp [go_sem, *])
  have u2 := hold1 hb5 (p := ⟨w4.heap.size, 0, none⟩) (v := .slice A n c) (by simp)
  have u3 := hold1 hb5 (p := ⟨w4.heap.size, 1, none⟩) (v := .int .i64 at_) (by simp)
  have hB5 := then_ (hB4.alloc z4.2.1 _) hb5 (Nat.le_refl _)
  clear hb5 p0 p1 hB4
  have hz5 := World.block_lt_of_cell? _ _ u0
  have hz6 := World.block_lt_of_cell? _ _ u2
  have hne : w.heap.size ≠ w4.heap.size := by omega
  generalize w4.heap.size = g at *
  go_wp2_with fail
  go_region_held3 (fun w' => w'.cell? ⟨w.heap.size, 0, none⟩ = some (.slice A n c) ∧ w'.cell? ⟨w.heap.size, 1, none⟩ = some (.int .i64 at_) ∧ w'.cell? ⟨g, 0, none⟩ = some (.slice A n c) ∧ w'.cell? ⟨g, 1, none⟩ = some (.int .i64 at_)) (first | (go_split_ands; with_reducible exact ⟨hold1 hbd ‹_›, hold1 hbd ‹_›, hold1 hbd ‹_›, hold1 hbd ‹_›⟩) | (go_split_ands; with_reducible exact ⟨hold1 hbb ‹_›, hold1 hbb ‹_›, hold1 hbb ‹_›, hold1 hbb ‹_›⟩) | (go_split_ands; with_reducible exact ⟨hold1 hba ‹_›, hold1 hba ‹_›, hold1 hba ‹_›, hold1 hba ‹_›⟩) | go_keep)
    (first
      | (go_at_call 52; refine (words_left_b A n c at_ (by omega) _).mono ?_; rintro e wa ⟨rfl, hba⟩; simp only [L.out])
      | (go_at_call 49; refine (left_law A n c at_ (by omega) _).mono ?_; rintro e wb ⟨rfl, hbb⟩; simp only [L.out])
      | (go_at_call 47; refine (same_law A n c w.heap.size at_ ws (by omega) _ (hr.below (then_ (then_ hB5.drew hba (Nat.le_refl _)) hbb (Nat.le_refl _))) (then_ (then_ hB5.drew hba (Nat.le_refl _)) hbb (Nat.le_refl _)).size).mono ?_; rintro e wd ⟨rfl, hbd⟩)
      | (go_at_call 48; refine (words_alive _).mono ?_; rintro e w' ⟨rfl, rfl⟩))
  all_goals
    go_wp2_with fail
    go_ret
    exact ⟨rfl, then_ (then_ (then_ hB5.drew hba (Nat.le_refl _)) hbb (Nat.le_refl _)) hbd (Nat.le_refl _)⟩

set_option maxRecDepth 100000 in
set_option maxHeartbeats 8000000 in
theorem wd_yes_neg (b off n c k : Nat) (ws : List Int) (x : Int) (m : Int) (w : World) (hr : Rd w w.heap.size 1 (some ⟨b, off, none⟩) n (ws.map (Value.int .u32))) (hl : ws.length = n) (hn : n ≤ 1000) (hc : n ≤ c) (hk : k < n) (hb : b < w.heap.size) (hcell : w.cell? ⟨b, off + k, none⟩ = some (.int .u32 x)) (hm : m < 0) :
    Calls Try.prog 14 #[Words.st (some ⟨b, off, none⟩) n c k, .int .i64 m] w fun e w' => e = .returned (.bool true) ∧ Below w.heap.size w w' := by
  have L := hide (show Words.left k n = n - k by unfold Words.left; rw [if_neg (by omega)])
  have dn : decide (1000 < n) = false := by simp; omega
  have hz : (((n : Int) - (k : Int)) == 0) = false := by rw [beq_eq_false_iff_ne]; omega
  have i0 : (0 : Int) ≤ (k : Int) := by omega
  have i1 : (k : Int) < (n : Int) := by omega
  have Hl := hide hl
  have C0 := hide hcell
  clear hl hcell
  go_enter Try.func14, Try.ntmps14
  go_wp2_with fail
  refine (words_next b off n c k x (by omega) _ hk (by simp [go_sem, C0.out, sizes hb])).mono ?_; rintro e w1 ⟨rfl, hb1⟩
  have k0 := hold1 hb1 (p := ⟨w.heap.size, 0, none⟩) (v := .slice (some ⟨b, off, none⟩) n c) (by simp)
  have k1 := hold1 hb1 (p := ⟨w.heap.size, 1, none⟩) (v := .int .i64 (k : Int)) (by simp)
  have z0 := sizes (szb (k := w.heap.size) hb1 (by simp))
  have hB := then_ (show Below w.heap.size w _ from by go_grown) hb1 (Nat.le_refl _)
  clear hb1
  go_wp2_with fail
  refine (left_law (some ⟨b, off, none⟩) n c (k : Int) (by omega) _).mono ?_; rintro e w2 ⟨rfl, hb2⟩; simp only [L.out]
  have q0 := hold1 hb2 (p := ⟨w.heap.size, 0, none⟩) (v := .slice (some ⟨b, off, none⟩) n c) (by simp [go_sem, *])
  have q1 := hold1 hb2 (p := ⟨w.heap.size, 1, none⟩) (v := .int .i64 (k : Int)) (by simp [go_sem, *])
  have q2 := hold1 hb2 (p := ⟨w1.heap.size, 0, none⟩) (v := .slice (some ⟨b, off, none⟩) n c) (by simp)
  have q3 := hold1 hb2 (p := ⟨w1.heap.size, 1, none⟩) (v := .int .i64 ((k : Int) + 1)) (by simp)
  have hB2 := then_ (hB.alloc z0.2.1 _) hb2 (Nat.le_refl _)
  clear hb2 k0 k1 hB
  have HR := hide (hr.below hB2)
  have q4 := (hB2.cell (p := ⟨b, off + k, none⟩) hb).trans C0.out
  go_wp2_with fail
  refine (eqU32 _ _ _ _ _ _ w.heap.size w.heap.size ws ws _ HR.out HR.out (by omega) (by omega)).mono ?_; rintro e w3 ⟨rfl, mm, hw3⟩; simp only [decide_true]
  have r0 : w3.cell? ⟨w.heap.size, 0, none⟩ = some (.slice (some ⟨b, off, none⟩) n c) := by rw [hw3]; exact q0
  have r1 : w3.cell? ⟨w.heap.size, 1, none⟩ = some (.int .i64 (k : Int)) := by rw [hw3]; exact q1
  have hB3 : Below w.heap.size w w3 := by rw [hw3]; exact below_drewN hB2 _
  have z3 := sizes (World.block_lt_of_cell? _ _ r0)
  clear hw3 q0 q1 q2 q3 q4 hB2 HR z0
  go_wp2_with fail
  refine (many_neg (some ⟨b, off, none⟩) n c (k : Int) m hm _).mono ?_; rintro e w4 ⟨rfl, hb4⟩
  have p0 := hold1 hb4 (p := ⟨w.heap.size, 0, none⟩) (v := .slice (some ⟨b, off, none⟩) n c) (by simp [go_sem, *])
  have p1 := hold1 hb4 (p := ⟨w.heap.size, 1, none⟩) (v := .int .i64 (k : Int)) (by simp [go_sem, *])
  have hB4 := then_ hB3 hb4 (Nat.le_refl _)
  have z4 := sizes (szb (k := w.heap.size) hb4 (by simp [*]))
  clear hb4 r0 r1 hB3 z3
  go_wp2_with fail
  refine letter (w := w) (fun W => W.cell? ⟨w.heap.size, 0, none⟩ = some (.slice (some ⟨b, off, none⟩) n c) ∧ W.cell? ⟨w.heap.size, 1, none⟩ = some (.int .i64 (k : Int)) ∧ W.cell? ⟨w4.heap.size, 0, none⟩ = some (.slice (some ⟨b, off, none⟩) n c) ∧ W.cell? ⟨w4.heap.size, 1, none⟩ = some (.int .i64 (k : Int))) (by simp [go_sem, *]) (hB4.alloc z4.2.1 _) (by simp [*]) ?_
  have hne : w.heap.size ≠ w4.heap.size := by omega
  clear p0 p1 hB4 z4
  generalize w4.heap.size = g at *
  rintro w5 ⟨u0, u1, u2, u3⟩ hB5 hz5
  go_region_held3 (fun w' => w'.cell? ⟨w.heap.size, 0, none⟩ = some (.slice (some ⟨b, off, none⟩) n c) ∧ w'.cell? ⟨w.heap.size, 1, none⟩ = some (.int .i64 (k : Int)) ∧ w'.cell? ⟨g, 0, none⟩ = some (.slice (some ⟨b, off, none⟩) n c) ∧ w'.cell? ⟨g, 1, none⟩ = some (.int .i64 (k : Int))) (first | (go_split_ands; with_reducible exact ⟨hold1 hbd ‹_›, hold1 hbd ‹_›, hold1 hbd ‹_›, hold1 hbd ‹_›⟩) | (go_split_ands; with_reducible exact ⟨hold1 hbb ‹_›, hold1 hbb ‹_›, hold1 hbb ‹_›, hold1 hbb ‹_›⟩) | (go_split_ands; with_reducible exact ⟨hold1 hba ‹_›, hold1 hba ‹_›, hold1 hba ‹_›, hold1 hba ‹_›⟩) | go_keep)
    (first
      | (go_at_call 52; refine (words_left_b (some ⟨b, off, none⟩) n c (k : Int) (by omega) _).mono ?_; rintro e wa ⟨rfl, hba⟩; simp only [L.out])
      | (go_at_call 49; refine (left_law (some ⟨b, off, none⟩) n c (k : Int) (by omega) _).mono ?_; rintro e wb ⟨rfl, hbb⟩; simp only [L.out])
      | (go_at_call 47; refine (same_law (some ⟨b, off, none⟩) n c w.heap.size (k : Int) ws (by omega) _ (hr.below (then_ (then_ hB5.drew hba (Nat.le_refl _)) hbb (Nat.le_refl _))) (then_ (then_ hB5.drew hba (Nat.le_refl _)) hbb (Nat.le_refl _)).size).mono ?_; rintro e wd ⟨rfl, hbd⟩)
      | (go_at_call 48; refine (words_alive _).mono ?_; rintro e w' ⟨rfl, rfl⟩))
  all_goals
    go_wp2_with fail
    go_ret
    exact ⟨rfl, then_ (then_ (then_ hB5.drew hba (Nat.le_refl _)) hbb (Nat.le_refl _)) hbd (Nat.le_refl _)⟩

set_option maxRecDepth 100000 in
set_option maxHeartbeats 8000000 in
theorem wd_yes_over (b off n c k : Nat) (ws : List Int) (x : Int) (m : Int) (w : World) (hr : Rd w w.heap.size 1 (some ⟨b, off, none⟩) n (ws.map (Value.int .u32))) (hl : ws.length = n) (hn : n ≤ 1000) (hc : n ≤ c) (hk : k < n) (hb : b < w.heap.size) (hcell : w.cell? ⟨b, off + k, none⟩ = some (.int .u32 x)) (hm0 : 0 ≤ m) (hm : (n : Int) - k < m) :
    Calls Try.prog 14 #[Words.st (some ⟨b, off, none⟩) n c k, .int .i64 m] w fun e w' => e = .returned (.bool true) ∧ Below w.heap.size w w' := by
  have L := hide (show Words.left k n = n - k by unfold Words.left; rw [if_neg (by omega)])
  have dn : decide (1000 < n) = false := by simp; omega
  have hz : (((n : Int) - (k : Int)) == 0) = false := by rw [beq_eq_false_iff_ne]; omega
  have i0 : (0 : Int) ≤ (k : Int) := by omega
  have i1 : (k : Int) < (n : Int) := by omega
  have Hl := hide hl
  have C0 := hide hcell
  clear hl hcell
  go_enter Try.func14, Try.ntmps14
  go_wp2_with fail
  refine (words_next b off n c k x (by omega) _ hk (by simp [go_sem, C0.out, sizes hb])).mono ?_; rintro e w1 ⟨rfl, hb1⟩
  have k0 := hold1 hb1 (p := ⟨w.heap.size, 0, none⟩) (v := .slice (some ⟨b, off, none⟩) n c) (by simp)
  have k1 := hold1 hb1 (p := ⟨w.heap.size, 1, none⟩) (v := .int .i64 (k : Int)) (by simp)
  have z0 := sizes (szb (k := w.heap.size) hb1 (by simp))
  have hB := then_ (show Below w.heap.size w _ from by go_grown) hb1 (Nat.le_refl _)
  clear hb1
  go_wp2_with fail
  refine (left_law (some ⟨b, off, none⟩) n c (k : Int) (by omega) _).mono ?_; rintro e w2 ⟨rfl, hb2⟩; simp only [L.out]
  have q0 := hold1 hb2 (p := ⟨w.heap.size, 0, none⟩) (v := .slice (some ⟨b, off, none⟩) n c) (by simp [go_sem, *])
  have q1 := hold1 hb2 (p := ⟨w.heap.size, 1, none⟩) (v := .int .i64 (k : Int)) (by simp [go_sem, *])
  have q2 := hold1 hb2 (p := ⟨w1.heap.size, 0, none⟩) (v := .slice (some ⟨b, off, none⟩) n c) (by simp)
  have q3 := hold1 hb2 (p := ⟨w1.heap.size, 1, none⟩) (v := .int .i64 ((k : Int) + 1)) (by simp)
  have hB2 := then_ (hB.alloc z0.2.1 _) hb2 (Nat.le_refl _)
  clear hb2 k0 k1 hB
  have HR := hide (hr.below hB2)
  have q4 := (hB2.cell (p := ⟨b, off + k, none⟩) hb).trans C0.out
  go_wp2_with fail
  refine (eqU32 _ _ _ _ _ _ w.heap.size w.heap.size ws ws _ HR.out HR.out (by omega) (by omega)).mono ?_; rintro e w3 ⟨rfl, mm, hw3⟩; simp only [decide_true]
  have r0 : w3.cell? ⟨w.heap.size, 0, none⟩ = some (.slice (some ⟨b, off, none⟩) n c) := by rw [hw3]; exact q0
  have r1 : w3.cell? ⟨w.heap.size, 1, none⟩ = some (.int .i64 (k : Int)) := by rw [hw3]; exact q1
  have hB3 : Below w.heap.size w w3 := by rw [hw3]; exact below_drewN hB2 _
  have z3 := sizes (World.block_lt_of_cell? _ _ r0)
  clear hw3 q0 q1 q2 q3 q4 hB2 HR z0
  go_wp2_with fail
  refine (many_dry (some ⟨b, off, none⟩) n c (k : Int) m (by omega) hm0 (by rw [L.out]; exact hm) _).mono ?_; rintro e w4 ⟨rfl, hb4⟩
  have p0 := hold1 hb4 (p := ⟨w.heap.size, 0, none⟩) (v := .slice (some ⟨b, off, none⟩) n c) (by simp [go_sem, *])
  have p1 := hold1 hb4 (p := ⟨w.heap.size, 1, none⟩) (v := .int .i64 (k : Int)) (by simp [go_sem, *])
  have hB4 := then_ hB3 hb4 (Nat.le_refl _)
  have z4 := sizes (szb (k := w.heap.size) hb4 (by simp [*]))
  clear hb4 r0 r1 hB3 z3
  go_wp2_with fail
  refine (left_law (some ⟨b, off, none⟩) n c (k : Int) (by omega) _).mono ?_; rintro e w5 ⟨rfl, hb5⟩; simp only [L.out]
  have u0 := hold1 hb5 (p := ⟨w.heap.size, 0, none⟩) (v := .slice (some ⟨b, off, none⟩) n c) (by simp [go_sem, *])
  have u1 := hold1 hb5 (p := ⟨w.heap.size, 1, none⟩) (v := .int .i64 (k : Int)) (by simp [go_sem, *])
  have u2 := hold1 hb5 (p := ⟨w4.heap.size, 0, none⟩) (v := .slice (some ⟨b, off, none⟩) n c) (by simp)
  have u3 := hold1 hb5 (p := ⟨w4.heap.size, 1, none⟩) (v := .int .i64 (k : Int)) (by simp)
  have hB5 := then_ (hB4.alloc z4.2.1 _) hb5 (Nat.le_refl _)
  clear hb5 p0 p1 hB4
  have hz5 := World.block_lt_of_cell? _ _ u0
  have hz6 := World.block_lt_of_cell? _ _ u2
  have hne : w.heap.size ≠ w4.heap.size := by omega
  generalize w4.heap.size = g at *
  go_wp2_with fail
  go_region_held3 (fun w' => w'.cell? ⟨w.heap.size, 0, none⟩ = some (.slice (some ⟨b, off, none⟩) n c) ∧ w'.cell? ⟨w.heap.size, 1, none⟩ = some (.int .i64 (k : Int)) ∧ w'.cell? ⟨g, 0, none⟩ = some (.slice (some ⟨b, off, none⟩) n c) ∧ w'.cell? ⟨g, 1, none⟩ = some (.int .i64 (k : Int))) (first | (go_split_ands; with_reducible exact ⟨hold1 hbd ‹_›, hold1 hbd ‹_›, hold1 hbd ‹_›, hold1 hbd ‹_›⟩) | (go_split_ands; with_reducible exact ⟨hold1 hbb ‹_›, hold1 hbb ‹_›, hold1 hbb ‹_›, hold1 hbb ‹_›⟩) | (go_split_ands; with_reducible exact ⟨hold1 hba ‹_›, hold1 hba ‹_›, hold1 hba ‹_›, hold1 hba ‹_›⟩) | go_keep)
    (first
      | (go_at_call 52; refine (words_left_b (some ⟨b, off, none⟩) n c (k : Int) (by omega) _).mono ?_; rintro e wa ⟨rfl, hba⟩; simp only [L.out])
      | (go_at_call 49; refine (left_law (some ⟨b, off, none⟩) n c (k : Int) (by omega) _).mono ?_; rintro e wb ⟨rfl, hbb⟩; simp only [L.out])
      | (go_at_call 47; refine (same_law (some ⟨b, off, none⟩) n c w.heap.size (k : Int) ws (by omega) _ (hr.below (then_ (then_ hB5.drew hba (Nat.le_refl _)) hbb (Nat.le_refl _))) (then_ (then_ hB5.drew hba (Nat.le_refl _)) hbb (Nat.le_refl _)).size).mono ?_; rintro e wd ⟨rfl, hbd⟩)
      | (go_at_call 48; refine (words_alive _).mono ?_; rintro e w' ⟨rfl, rfl⟩))
  all_goals
    go_wp2_with fail
    go_ret
    exact ⟨rfl, then_ (then_ (then_ hB5.drew hba (Nat.le_refl _)) hbb (Nat.le_refl _)) hbd (Nat.le_refl _)⟩

set_option maxRecDepth 100000 in
set_option maxHeartbeats 8000000 in
theorem wd_yes_zero (b off n c k : Nat) (ws : List Int) (x : Int)  (w : World) (hr : Rd w w.heap.size 1 (some ⟨b, off, none⟩) n (ws.map (Value.int .u32))) (hl : ws.length = n) (hn : n ≤ 1000) (hc : n ≤ c) (hk : k < n) (hb : b < w.heap.size) (hcell : w.cell? ⟨b, off + k, none⟩ = some (.int .u32 x)) :
    Calls Try.prog 14 #[Words.st (some ⟨b, off, none⟩) n c k, .int .i64 0] w fun e w' => e = .returned (.bool true) ∧ Below w.heap.size w w' := by
  have L := hide (show Words.left k n = n - k by unfold Words.left; rw [if_neg (by omega)])
  have dn : decide (1000 < n) = false := by simp; omega
  have hz : (((n : Int) - (k : Int)) == 0) = false := by rw [beq_eq_false_iff_ne]; omega
  have i0 : (0 : Int) ≤ (k : Int) := by omega
  have i1 : (k : Int) < (n : Int) := by omega
  have Hl := hide hl
  have C0 := hide hcell
  clear hl hcell
  go_enter Try.func14, Try.ntmps14
  go_wp2_with fail
  refine (words_next b off n c k x (by omega) _ hk (by simp [go_sem, C0.out, sizes hb])).mono ?_; rintro e w1 ⟨rfl, hb1⟩
  have k0 := hold1 hb1 (p := ⟨w.heap.size, 0, none⟩) (v := .slice (some ⟨b, off, none⟩) n c) (by simp)
  have k1 := hold1 hb1 (p := ⟨w.heap.size, 1, none⟩) (v := .int .i64 (k : Int)) (by simp)
  have z0 := sizes (szb (k := w.heap.size) hb1 (by simp))
  have hB := then_ (show Below w.heap.size w _ from by go_grown) hb1 (Nat.le_refl _)
  clear hb1
  go_wp2_with fail
  refine (left_law (some ⟨b, off, none⟩) n c (k : Int) (by omega) _).mono ?_; rintro e w2 ⟨rfl, hb2⟩; simp only [L.out]
  have q0 := hold1 hb2 (p := ⟨w.heap.size, 0, none⟩) (v := .slice (some ⟨b, off, none⟩) n c) (by simp [go_sem, *])
  have q1 := hold1 hb2 (p := ⟨w.heap.size, 1, none⟩) (v := .int .i64 (k : Int)) (by simp [go_sem, *])
  have q2 := hold1 hb2 (p := ⟨w1.heap.size, 0, none⟩) (v := .slice (some ⟨b, off, none⟩) n c) (by simp)
  have q3 := hold1 hb2 (p := ⟨w1.heap.size, 1, none⟩) (v := .int .i64 ((k : Int) + 1)) (by simp)
  have hB2 := then_ (hB.alloc z0.2.1 _) hb2 (Nat.le_refl _)
  clear hb2 k0 k1 hB
  have HR := hide (hr.below hB2)
  have q4 := (hB2.cell (p := ⟨b, off + k, none⟩) hb).trans C0.out
  go_wp2_with fail
  refine (eqU32 _ _ _ _ _ _ w.heap.size w.heap.size ws ws _ HR.out HR.out (by omega) (by omega)).mono ?_; rintro e w3 ⟨rfl, mm, hw3⟩; simp only [decide_true]
  have r0 : w3.cell? ⟨w.heap.size, 0, none⟩ = some (.slice (some ⟨b, off, none⟩) n c) := by rw [hw3]; exact q0
  have r1 : w3.cell? ⟨w.heap.size, 1, none⟩ = some (.int .i64 (k : Int)) := by rw [hw3]; exact q1
  have hB3 : Below w.heap.size w w3 := by rw [hw3]; exact below_drewN hB2 _
  have z3 := sizes (World.block_lt_of_cell? _ _ r0)
  clear hw3 q0 q1 q2 q3 q4 hB2 HR z0
  go_wp2_with fail
  refine (many_zero (some ⟨b, off, none⟩) n c (k : Int) (by omega) _).mono ?_; rintro e w4 ⟨rfl, hb4⟩
  have p0 := hold1 hb4 (p := ⟨w.heap.size, 0, none⟩) (v := .slice (some ⟨b, off, none⟩) n c) (by simp [go_sem, *])
  have p1 := hold1 hb4 (p := ⟨w.heap.size, 1, none⟩) (v := .int .i64 (k : Int)) (by simp [go_sem, *])
  have hB4 := then_ hB3 hb4 (Nat.le_refl _)
  have z4 := sizes (szb (k := w.heap.size) hb4 (by simp [*]))
  clear hb4 r0 r1 hB3 z3
  go_wp2_with fail
  refine (left_law (some ⟨b, off, none⟩) n c (k : Int) (by omega) _).mono ?_; rintro e w5 ⟨rfl, hb5⟩; simp only [L.out]
  have u0 := hold1 hb5 (p := ⟨w.heap.size, 0, none⟩) (v := .slice (some ⟨b, off, none⟩) n c) (by simp [go_sem, *])
  have u1 := hold1 hb5 (p := ⟨w.heap.size, 1, none⟩) (v := .int .i64 (k : Int)) (by simp [go_sem, *])
  have u2 := hold1 hb5 (p := ⟨w4.heap.size, 0, none⟩) (v := .slice (some ⟨b, off, none⟩) n c) (by simp)
  have u3 := hold1 hb5 (p := ⟨w4.heap.size, 1, none⟩) (v := .int .i64 (k : Int)) (by simp)
  have hB5 := then_ (hB4.alloc z4.2.1 _) hb5 (Nat.le_refl _)
  clear hb5 p0 p1 hB4
  have hz5 := World.block_lt_of_cell? _ _ u0
  have hz6 := World.block_lt_of_cell? _ _ u2
  have hne : w.heap.size ≠ w4.heap.size := by omega
  generalize w4.heap.size = g at *
  go_wp2_with fail
  go_region_held3 (fun w' => w'.cell? ⟨w.heap.size, 0, none⟩ = some (.slice (some ⟨b, off, none⟩) n c) ∧ w'.cell? ⟨w.heap.size, 1, none⟩ = some (.int .i64 (k : Int)) ∧ w'.cell? ⟨g, 0, none⟩ = some (.slice (some ⟨b, off, none⟩) n c) ∧ w'.cell? ⟨g, 1, none⟩ = some (.int .i64 (k : Int))) (first | (go_split_ands; with_reducible exact ⟨hold1 hbd ‹_›, hold1 hbd ‹_›, hold1 hbd ‹_›, hold1 hbd ‹_›⟩) | (go_split_ands; with_reducible exact ⟨hold1 hbb ‹_›, hold1 hbb ‹_›, hold1 hbb ‹_›, hold1 hbb ‹_›⟩) | (go_split_ands; with_reducible exact ⟨hold1 hba ‹_›, hold1 hba ‹_›, hold1 hba ‹_›, hold1 hba ‹_›⟩) | go_keep)
    (first
      | (go_at_call 52; refine (words_left_b (some ⟨b, off, none⟩) n c (k : Int) (by omega) _).mono ?_; rintro e wa ⟨rfl, hba⟩; simp only [L.out])
      | (go_at_call 49; refine (left_law (some ⟨b, off, none⟩) n c (k : Int) (by omega) _).mono ?_; rintro e wb ⟨rfl, hbb⟩; simp only [L.out])
      | (go_at_call 47; refine (same_law (some ⟨b, off, none⟩) n c w.heap.size (k : Int) ws (by omega) _ (hr.below (then_ (then_ hB5.drew hba (Nat.le_refl _)) hbb (Nat.le_refl _))) (then_ (then_ hB5.drew hba (Nat.le_refl _)) hbb (Nat.le_refl _)).size).mono ?_; rintro e wd ⟨rfl, hbd⟩)
      | (go_at_call 48; refine (words_alive _).mono ?_; rintro e w' ⟨rfl, rfl⟩))
  all_goals
    go_wp2_with fail
    go_ret
    exact ⟨rfl, then_ (then_ (then_ hB5.drew hba (Nat.le_refl _)) hbb (Nat.le_refl _)) hbd (Nat.le_refl _)⟩

set_option maxRecDepth 100000 in
set_option maxHeartbeats 8000000 in
theorem wd_yes_some (b off n c k : Nat) (ws : List Int) (x : Int) (m : Nat) (w : World) (hr : Rd w w.heap.size 1 (some ⟨b, off, none⟩) n (ws.map (Value.int .u32))) (hl : ws.length = n) (hn : n ≤ 1000) (hc : n ≤ c) (hk : k < n) (hb : b < w.heap.size) (hcell : w.cell? ⟨b, off + k, none⟩ = some (.int .u32 x)) (hm : k + m ≤ n) (hm0 : 0 < m) :
    Calls Try.prog 14 #[Words.st (some ⟨b, off, none⟩) n c k, .int .i64 m] w fun e w' => e = .returned (.bool true) ∧ Below w.heap.size w w' := by
  have L := hide (show Words.left k n = n - k by unfold Words.left; rw [if_neg (by omega)])
  have dn : decide (1000 < n) = false := by simp; omega
  have hz : (((n : Int) - (k : Int)) == 0) = false := by rw [beq_eq_false_iff_ne]; omega
  have i0 : (0 : Int) ≤ (k : Int) := by omega
  have i1 : (k : Int) < (n : Int) := by omega
  have Hl := hide hl
  have C0 := hide hcell
  clear hl hcell
  obtain ⟨b', off', hA, _, hcut⟩ := Many.cut hr hm hm0
  simp only [Option.some.injEq, Addr.mk.injEq, and_true] at hA
  obtain ⟨rfl, rfl⟩ := hA
  have i2 : (k : Int) ≤ (k : Int) + (m : Int) := by omega
  have i3 : (k : Int) + (m : Int) ≤ (c : Int) := by omega
  have i4 : ((k : Int) + (m : Int)).toNat = k + m := by omega
  have i5 : ((m : Int) == 0) = false := by rw [beq_eq_false_iff_ne]; omega
  have ick : ¬ (c = k) := by omega
  go_enter Try.func14, Try.ntmps14
  go_wp2_with fail
  refine (words_next b off n c k x (by omega) _ hk (by simp [go_sem, C0.out, sizes hb])).mono ?_; rintro e w1 ⟨rfl, hb1⟩
  have k0 := hold1 hb1 (p := ⟨w.heap.size, 0, none⟩) (v := .slice (some ⟨b, off, none⟩) n c) (by simp)
  have k1 := hold1 hb1 (p := ⟨w.heap.size, 1, none⟩) (v := .int .i64 (k : Int)) (by simp)
  have z0 := sizes (szb (k := w.heap.size) hb1 (by simp))
  have hB := then_ (show Below w.heap.size w _ from by go_grown) hb1 (Nat.le_refl _)
  clear hb1
  go_wp2_with fail
  refine (left_law (some ⟨b, off, none⟩) n c (k : Int) (by omega) _).mono ?_; rintro e w2 ⟨rfl, hb2⟩; simp only [L.out]
  have q0 := hold1 hb2 (p := ⟨w.heap.size, 0, none⟩) (v := .slice (some ⟨b, off, none⟩) n c) (by simp [go_sem, *])
  have q1 := hold1 hb2 (p := ⟨w.heap.size, 1, none⟩) (v := .int .i64 (k : Int)) (by simp [go_sem, *])
  have q2 := hold1 hb2 (p := ⟨w1.heap.size, 0, none⟩) (v := .slice (some ⟨b, off, none⟩) n c) (by simp)
  have q3 := hold1 hb2 (p := ⟨w1.heap.size, 1, none⟩) (v := .int .i64 ((k : Int) + 1)) (by simp)
  have hB2 := then_ (hB.alloc z0.2.1 _) hb2 (Nat.le_refl _)
  clear hb2 k0 k1 hB
  have HR := hide (hr.below hB2)
  have q4 := (hB2.cell (p := ⟨b, off + k, none⟩) hb).trans C0.out
  go_wp2_with fail
  refine (eqU32 _ _ _ _ _ _ w.heap.size w.heap.size ws ws _ HR.out HR.out (by omega) (by omega)).mono ?_; rintro e w3 ⟨rfl, mm, hw3⟩; simp only [decide_true]
  have r0 : w3.cell? ⟨w.heap.size, 0, none⟩ = some (.slice (some ⟨b, off, none⟩) n c) := by rw [hw3]; exact q0
  have r1 : w3.cell? ⟨w.heap.size, 1, none⟩ = some (.int .i64 (k : Int)) := by rw [hw3]; exact q1
  have hB3 : Below w.heap.size w w3 := by rw [hw3]; exact below_drewN hB2 _
  have z3 := sizes (World.block_lt_of_cell? _ _ r0)
  clear hw3 q0 q1 q2 q3 q4 hB2 HR z0
  go_wp2_with fail
  refine (many_yes b off n c k m ws hn Hl.out hc hm hm0 _ ((hr.below hB3).mono hB3.size)).mono ?_; rintro e w4 ⟨v, rfl, hown, hb4⟩
  have p0 := hold1 hb4 (p := ⟨w.heap.size, 0, none⟩) (v := .slice (some ⟨b, off, none⟩) n c) (by simp [go_sem, *])
  have p1 := hold1 hb4 (p := ⟨w.heap.size, 1, none⟩) (v := .int .i64 (k : Int)) (by simp [go_sem, *])
  have hB4 := then_ hB3 hb4 (Nat.le_refl _)
  have z4 := sizes (szb (k := w.heap.size) hb4 (by simp [*]))
  clear hb4 r0 r1 hB3 z3
  obtain ⟨A5, c5, rfl, hc5, hrd⟩ := hown.ints
  have hyl : ((ws.drop k).take m).length = m := by have := Hl.out; simp; omega
  rw [hyl] at hrd hc5
  have HY := hide hyl
  clear hown
  simp only [hyl]
  go_wp2_with fail
  refine (left_law (some ⟨b, off, none⟩) n c (k : Int) (by omega) _).mono ?_; rintro e w5 ⟨rfl, hb5⟩; simp only [L.out]
  have u0 := hold1 hb5 (p := ⟨w.heap.size, 0, none⟩) (v := .slice (some ⟨b, off, none⟩) n c) (by simp [go_sem, *])
  have u1 := hold1 hb5 (p := ⟨w.heap.size, 1, none⟩) (v := .int .i64 (k : Int)) (by simp [go_sem, *])
  have u2 := hold1 hb5 (p := ⟨w4.heap.size, 0, none⟩) (v := .slice (some ⟨b, off, none⟩) n c) (by simp)
  have u3 := hold1 hb5 (p := ⟨w4.heap.size, 1, none⟩) (v := .int .i64 ((k : Int) + m)) (by simp)
  have hB5 := then_ (hB4.alloc z4.2.1 _) hb5 (Nat.le_refl _)
  have hr5 := ((hrd.alloc (Nat.le_refl _) (Words.box (some ⟨b, off, none⟩) n c ((k : Int) + m))).below (hb5.mono (by simp))).mono (show w4.heap.size ≤ w5.heap.size from by have := hb5.size; simp at this; omega)
  clear hb5 p0 p1 hB4
  have hz5 := World.block_lt_of_cell? _ _ u0
  have hz6 := World.block_lt_of_cell? _ _ u2
  have hne : w.heap.size ≠ w4.heap.size := by omega
  generalize w4.heap.size = g at *
  go_wp2_with fail
  have iw : IntKind.i64.wrap ((k : Int) + (m : Int)) = (k : Int) + (m : Int) := IntWalk.i64_in _ (by omega)
  have i6 : (0 : Int) ≤ (k : Int) + (m : Int) := by omega
  have D0 : w5.drew.cell? ⟨w.heap.size, 0, none⟩ = some (.slice (some ⟨b, off, none⟩) n c) := u0
  have D1 : w5.drew.cell? ⟨w.heap.size, 1, none⟩ = some (.int .i64 (k : Int)) := u1
  have D2 : w5.drew.cell? ⟨g, 0, none⟩ = some (.slice (some ⟨b, off, none⟩) n c) := u2
  have D3 : w5.drew.cell? ⟨g, 1, none⟩ = some (.int .i64 ((k : Int) + m)) := u3
  have D4 : Below w.heap.size w w5.drew := hB5.drew
  have D5 : Below w5.heap.size w5 w5.drew := (Below.refl _ _).drew
  go_region_held3 (fun w' => w'.cell? ⟨w.heap.size, 0, none⟩ = some (.slice (some ⟨b, off, none⟩) n c) ∧ w'.cell? ⟨w.heap.size, 1, none⟩ = some (.int .i64 (k : Int)) ∧ w'.cell? ⟨g, 0, none⟩ = some (.slice (some ⟨b, off, none⟩) n c) ∧ w'.cell? ⟨g, 1, none⟩ = some (.int .i64 ((k : Int) + m)) ∧ Below w.heap.size w w' ∧ Below w5.heap.size w5 w') (first | (with_reducible exact ⟨D0, D1, D2, D3, D4, D5⟩) | (go_split_ands; with_reducible exact ⟨hold1 hbN ‹_›, hold1 hbN ‹_›, hold1 hbN ‹_›, hold1 hbN ‹_›, then_ ‹Below w.heap.size w _› hbN (Nat.le_refl _), then_ ‹Below w5.heap.size w5 _› hbN (Nat.le_refl _)⟩) | go_keep)
    (first
      | (go_at_call 52; go_split_ands; refine (words_left_b (some ⟨b, off, none⟩) n c (k : Int) (by omega) _).mono ?_; rintro e wN ⟨rfl, hbN⟩; simp only [L.out])
      | (go_at_call 49; go_split_ands; refine (left_law (some ⟨b, off, none⟩) n c (k : Int) (by omega) _).mono ?_; rintro e wN ⟨rfl, hbN⟩; simp only [L.out])
      | (go_at_call_of 25 (Value.slice A5 m c5); go_split_ands; with_reducible refine (eqU32_b _ _ _ _ _ _ w5.heap.size w.heap.size ((ws.drop k).take m) ((ws.drop k).take m) _ (hr5.below ?_) (hcut.below ?_) (by omega) (by omega)).mono ?_; (assumption); (assumption); rintro e wN ⟨rfl, hbN⟩; simp only [decide_true])
      | (go_at_call_of 25 (Value.slice (some ⟨b, off, none⟩) n c); go_split_ands; with_reducible refine (eqU32_b _ _ _ _ _ _ w.heap.size w.heap.size ws ws _ (hr.below ?_) (hr.below ?_) (by omega) (by omega)).mono ?_; (assumption); (assumption); rintro e wN ⟨rfl, hbN⟩; simp only [decide_true])
      | (go_at_call 48; go_split_ands; refine (words_alive _).mono ?_; rintro e wN ⟨rfl, rfl⟩))
  all_goals
    go_wp2_with fail
    go_ret
    go_split_ands
    exact ⟨rfl, by assumption⟩
end Go.Proofs.Ytikdkljknbgphaa
