/-
  The walks of package energy (Right, Step) and of the law's own helpers.
-/
import Derived.Test.YtikdkljknbgphaaProg
import Derived.Test.YtikdkljknbgphaaBase
import Derived.Deep.RegionHeld3
namespace Go.Proofs.Ytikdkljknbgphaa
open Go.RowKit HB

/-- May there be such rates? -/
def Energy.ok1 (a : Int) : Bool := decide (0 ≤ a ∧ a ≤ 1048576)
def Energy.ok (a b c d : Int) : Bool := Energy.ok1 a && Energy.ok1 b && Energy.ok1 c && Energy.ok1 d
abbrev Energy.box (a b c d : Int) : Obj := .cells #[.int .i64 a, .int .i64 b, .int .i64 c, .int .i64 d] 28

set_option maxRecDepth 100000 in
set_option maxHeartbeats 1000000 in
theorem energy_right (a b c d : Int) (w : World) :
    Calls Try.prog 19 #[.agg #[.int .i64 a, .int .i64 b, .int .i64 c, .int .i64 d]] w fun e w' => e = .returned (.bool (Energy.ok a b c d)) ∧ Below w.heap.size w w' := by
  have i0 : ∀ (x y z t : Value) (w : World), (Instr.index 82 (.agg #[x, y, z, t]) (.int .i64 0)).run Try.prog w = .ok x w := fun _ _ _ _ _ => by kernel_rfl
  have i1 : ∀ (x y z t : Value) (w : World), (Instr.index 82 (.agg #[x, y, z, t]) (.int .i64 1)).run Try.prog w = .ok y w := fun _ _ _ _ _ => by kernel_rfl
  have i2 : ∀ (x y z t : Value) (w : World), (Instr.index 82 (.agg #[x, y, z, t]) (.int .i64 2)).run Try.prog w = .ok z w := fun _ _ _ _ _ => by kernel_rfl
  have i3 : ∀ (x y z t : Value) (w : World), (Instr.index 82 (.agg #[x, y, z, t]) (.int .i64 3)).run Try.prog w = .ok t w := fun _ _ _ _ _ => by kernel_rfl
  go_enter Try.func19, Try.ntmps19
  go_wp2_with fail
  refine wp_loop_rounds 5 ?_
  iterate 6 (all_goals (try (rw [rounds_succ]; go_wp2_with fail)))
  all_goals
    go_ret
    clear i0 i1 i2 i3
    refine ⟨?_, by go_grown⟩
    simp [Energy.ok, Energy.ok1]
    omega

set_option maxHeartbeats 1000000 in
theorem energy_right_law (a b c d : Int) (w : World) :
    Calls Try.prog 20 #[.agg #[.int .i64 a, .int .i64 b, .int .i64 c, .int .i64 d]] w fun e w' => e = .returned (.bool (Energy.ok a b c d)) ∧ Below w.heap.size w w' := by
  go_enter Try.func20, Try.ntmps20
  go_wp2_with fail
  all_goals
    go_ret
    exact ⟨ret_bool (by rw [Bool.eq_iff_iff]; simp [Energy.ok, Energy.ok1]; omega), by go_grown⟩

/-- What a place costs. -/
def Energy.cost (a b c dir n : Int) : Int := if 0 < dir then a + c * n else if dir < 0 then max (b - c * n) 0 else 0
theorem Energy.bounds {a b c d n : Int} (h : Energy.ok a b c d = true) (hn : 0 ≤ n) (hn1 : n ≤ 1048576) :
    0 ≤ a ∧ a ≤ 1048576 ∧ 0 ≤ b ∧ b ≤ 1048576 ∧ 0 ≤ c * n ∧ c * n ≤ 1099511627776 := by
  simp [Energy.ok, Energy.ok1] at h
  have h1 : c * n ≤ 1048576 * n := Int.mul_le_mul_of_nonneg_right (by omega) hn
  have h2 : 0 ≤ c * n := Int.mul_nonneg (by omega) hn
  omega
theorem energy_step (a b c d dir n : Int) (h : Energy.ok a b c d = true) (hn : 0 ≤ n) (hn1 : n ≤ 1048576) (w : World) :
    Calls Try.prog 22 #[.agg #[.int .i64 a, .int .i64 b, .int .i64 c, .int .i64 d], .int .i64 dir, .int .i64 n] w fun e w' => e = .returned (.int .i64 (Energy.cost a b c dir n)) ∧ Below w.heap.size w w' := by
  obtain ⟨h1, h2, h3, h4, h5, h6⟩ := Energy.bounds h hn hn1
  clear h
  go_enter Try.func22, Try.ntmps22
  go_wp2_with fail
  all_goals
    go_ret
    refine ⟨?_, by go_grown⟩
    simp [Energy.cost, *]
  all_goals (try omega)
theorem energy_step_law (a b c d dir n : Int) (h : Energy.ok a b c d = true) (hn : 0 ≤ n) (hn1 : n ≤ 1048576) (w : World) :
    Calls Try.prog 23 #[.agg #[.int .i64 a, .int .i64 b, .int .i64 c, .int .i64 d], .int .i64 dir, .int .i64 n] w fun e w' => e = .returned (.int .i64 (Energy.cost a b c dir n)) ∧ Below w.heap.size w w' := by
  obtain ⟨h1, h2, h3, h4, h5, h6⟩ := Energy.bounds h hn hn1
  clear h
  have e : n * c = c * n := Int.mul_comm _ _
  have h7 : 0 ≤ n * c := by omega
  have h8 : n * c ≤ 1099511627776 := by omega
  have He := hide e
  clear e
  go_enter Try.func23, Try.ntmps23
  go_wp2_with fail
  all_goals
    go_ret
    have e := He.out
    refine ⟨?_, by go_grown⟩
    simp [Energy.cost, *]
  all_goals (try omega)
theorem energy_alive (w : World) : Calls Try.prog 21 #[] w fun e w' => e = .returned (.bool true) ∧ Below w.heap.size w w' := by
  have e1 : Energy.cost 0 5 2 (-1) 3 = 0 := rfl
  have e2 : Energy.cost 5 0 2 1 3 = 11 := rfl
  go_enter Try.func21, Try.ntmps21
  go_wp2_with fail
  refine (energy_step 0 5 2 0 (-1) 3 rfl (by omega) (by omega) _).mono ?_; rintro e w1 ⟨rfl, hb1⟩
  go_wp2_with fail
  refine (energy_step 5 0 2 0 1 3 rfl (by omega) (by omega) _).mono ?_; rintro e w2 ⟨rfl, hb2⟩
  go_wp2_with fail
  go_ret
  exact ⟨rfl, hb1.trans (hb2.mono hb1.size)⟩

attribute [local go_sem ↓] Go.wp_at_zero Go.wp_at_succ
set_option maxRecDepth 100000 in
set_option maxHeartbeats 2000000 in
theorem energySteps_walk (a b c d dir n : Int) (w : World) :
    Calls Try.prog 4 #[.agg #[.int .i64 a, .int .i64 b, .int .i64 c, .int .i64 d], .int .i64 dir, .int .i64 n] w fun e w' => e = .returned (.bool true) ∧ Below w.heap.size w w' := by
  by_cases hgo : Energy.ok a b c d = true ∧ 0 ≤ n ∧ n ≤ 1048576
  · obtain ⟨hok, hn, hn1⟩ := hgo
    go_enter Try.func4, Try.ntmps4
    go_wp2_with fail
    go_region_held3 (fun w' => w'.cell? ⟨w.heap.size, 0, none⟩ = some (.int .i64 a) ∧ w'.cell? ⟨w.heap.size, 1, none⟩ = some (.int .i64 b) ∧ w'.cell? ⟨w.heap.size, 2, none⟩ = some (.int .i64 c) ∧ w'.cell? ⟨w.heap.size, 3, none⟩ = some (.int .i64 d)) (first | (go_split_ands; exact ⟨hold1 hbb ‹_›, hold1 hbb ‹_›, hold1 hbb ‹_›, hold1 hbb ‹_›⟩) | (go_split_ands; exact ⟨hold1 hba ‹_›, hold1 hba ‹_›, hold1 hba ‹_›, hold1 hba ‹_›⟩) | go_keep)
      (first
        | (go_at_call 19; refine (energy_right _ _ _ _ _).mono ?_; rintro e wa ⟨rfl, hba⟩)
        | (go_at_call 20; refine (energy_right_law _ _ _ _ _).mono ?_; rintro e wb ⟨rfl, hbb⟩))
    have hB1 := then_ (then_ (show Below w.heap.size w _ from by go_grown) hba (Nat.le_refl _)) hbb (Nat.le_refl _)
    refine letter (w := w) (fun w' => w'.cell? ⟨w.heap.size, 0, none⟩ = some (.int .i64 a) ∧ w'.cell? ⟨w.heap.size, 1, none⟩ = some (.int .i64 b) ∧ w'.cell? ⟨w.heap.size, 2, none⟩ = some (.int .i64 c) ∧ w'.cell? ⟨w.heap.size, 3, none⟩ = some (.int .i64 d)) (by assumption) hB1 (szb hbb (szb hba (by simp))) ?_
    clear hB1 hba hbb
    rintro W1 ⟨c1, c2, c3, c4⟩ hb1 hz1
    go_wp2_with (go_at_call 20; refine (energy_right_law _ _ _ _ _).mono ?_; rintro e wa ⟨rfl, hba⟩; have k1 := hold1 hba c1; have k2 := hold1 hba c2; have k3 := hold1 hba c3; have k4 := hold1 hba c4)
    go_region_held3 (fun w' => w'.cell? ⟨w.heap.size, 0, none⟩ = some (.int .i64 a) ∧ w'.cell? ⟨w.heap.size, 1, none⟩ = some (.int .i64 b) ∧ w'.cell? ⟨w.heap.size, 2, none⟩ = some (.int .i64 c) ∧ w'.cell? ⟨w.heap.size, 3, none⟩ = some (.int .i64 d)) (first | (go_split_ands; exact ⟨hold1 hbd ‹_›, hold1 hbd ‹_›, hold1 hbd ‹_›, hold1 hbd ‹_›⟩) | (go_split_ands; exact ⟨hold1 hbc ‹_›, hold1 hbc ‹_›, hold1 hbc ‹_›, hold1 hbc ‹_›⟩) | (go_split_ands; exact ⟨hold1 hbb ‹_›, hold1 hbb ‹_›, hold1 hbb ‹_›, hold1 hbb ‹_›⟩) | go_keep)
      (first
        | (go_at_call 22; refine (energy_step _ _ _ _ _ _ hok hn hn1 _).mono ?_; rintro e wb ⟨rfl, hbb⟩)
        | (go_at_call 23; refine (energy_step_law _ _ _ _ _ _ hok hn hn1 _).mono ?_; rintro e wc ⟨rfl, hbc⟩)
        | (go_at_call 21; refine (energy_alive _).mono ?_; rintro e wd ⟨rfl, hbd⟩))
    go_wp2_with fail
    go_ret
    exact ⟨rfl, then_ (then_ (then_ (then_ hb1 hba (Nat.le_refl _)).drew hbb (Nat.le_refl _)) hbc (Nat.le_refl _)) hbd (Nat.le_refl _)⟩
  · have hno : Energy.ok a b c d = false ∨ (Energy.ok a b c d = true ∧ n < 0) ∨ (Energy.ok a b c d = true ∧ 1048576 < n) := by
      cases h : Energy.ok a b c d
      · exact .inl rfl
      · rw [h] at hgo; simp at hgo; simp; omega
    clear hgo
    rcases hno with hok | ⟨hok, hn⟩ | ⟨hok, hn⟩
    all_goals
      go_enter Try.func4, Try.ntmps4
      go_wp2_with fail
      go_region_held3 (fun w' => w'.cell? ⟨w.heap.size, 0, none⟩ = some (.int .i64 a) ∧ w'.cell? ⟨w.heap.size, 1, none⟩ = some (.int .i64 b) ∧ w'.cell? ⟨w.heap.size, 2, none⟩ = some (.int .i64 c) ∧ w'.cell? ⟨w.heap.size, 3, none⟩ = some (.int .i64 d)) (first | (go_split_ands; exact ⟨hold1 hbb ‹_›, hold1 hbb ‹_›, hold1 hbb ‹_›, hold1 hbb ‹_›⟩) | (go_split_ands; exact ⟨hold1 hba ‹_›, hold1 hba ‹_›, hold1 hba ‹_›, hold1 hba ‹_›⟩) | go_keep)
        (first
          | (go_at_call 19; refine (energy_right _ _ _ _ _).mono ?_; rintro e wa ⟨rfl, hba⟩)
          | (go_at_call 20; refine (energy_right_law _ _ _ _ _).mono ?_; rintro e wb ⟨rfl, hbb⟩))
      have hB1 := then_ (then_ (show Below w.heap.size w _ from by go_grown) hba (Nat.le_refl _)) hbb (Nat.le_refl _)
      refine letter (w := w) (fun w' => w'.cell? ⟨w.heap.size, 0, none⟩ = some (.int .i64 a) ∧ w'.cell? ⟨w.heap.size, 1, none⟩ = some (.int .i64 b) ∧ w'.cell? ⟨w.heap.size, 2, none⟩ = some (.int .i64 c) ∧ w'.cell? ⟨w.heap.size, 3, none⟩ = some (.int .i64 d)) (by assumption) hB1 (szb hbb (szb hba (by simp))) ?_
      clear hB1 hba hbb
      rintro W1 ⟨c1, c2, c3, c4⟩ hb1 hz1
      go_wp2_with (first
        | (go_at_call 20; refine (energy_right_law _ _ _ _ _).mono ?_; rintro e wa ⟨rfl, hba⟩)
        | (go_at_call 21; refine (energy_alive _).mono ?_; rintro e wb ⟨rfl, hbb⟩))
      go_ret
      exact ⟨rfl, then_ (then_ hb1 hba (Nat.le_refl _)) hbb (Nat.le_refl _)⟩
end Go.Proofs.Ytikdkljknbgphaa
