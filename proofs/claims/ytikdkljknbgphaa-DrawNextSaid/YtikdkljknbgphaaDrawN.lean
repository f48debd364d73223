/-
  The walks of draw.Next.
-/
import Derived.Test.YtikdkljknbgphaaWords
import Derived.Test.YtikdkljknbgphaaTab
namespace Go.Proofs.Ytikdkljknbgphaa
open Go.RowKit HB PickP TabP
set_option linter.unusedVariables false
set_option linter.unusedSimpArgs false

set_option maxRecDepth 100000 in
set_option maxHeartbeats 2000000 in
theorem draw_next_no (A : Option Addr) (n c : Nat) (at_ : Int) (w : World) (A2 : Option Addr) (n2 c2 B : Nat) (l : List Int) (hr : Rd w B 1 A2 n2 (l.map (Value.int .u64))) (hl : l.length = n2) (hn2 : n2 ≤ 200) (hB : B ≤ w.heap.size) (ht : right l = false) :
    Calls Try.prog 37 #[.slice A2 n2 c2, Words.st A n c at_] w fun e w' => e = .returned (.tuple #[.int .i64 0, Words.st A n c at_, .int .i64 20]) ∧ Below w.heap.size w w' := by
  have T := hide ht
  have Hl := hide hl
  have HR := hide ((hr.alloc hB (Words.box A n c at_)).alloc (by simp; omega) (Words.box none 0 0 0))
  clear ht hl hr
  go_enter Try.func37, Try.ntmps37
  go_wp2_with (go_at_call 58; refine (cumul_right A2 n2 c2 B l _ HR.out Hl.out hn2).mono ?_; rintro e w' ⟨rfl, rfl⟩; simp only [T.out])
  go_region
  all_goals
    go_wp2_with fail
    go_returns
    exact ⟨rfl, by go_grown⟩

set_option maxRecDepth 100000 in
set_option maxHeartbeats 2000000 in
theorem draw_next_dry (A : Option Addr) (n c : Nat) (at_ : Int) (hn : n ≤ 1000000000) (w : World) (A2 : Option Addr) (n2 c2 B : Nat) (l : List Int) (hr : Rd w B 1 A2 n2 (l.map (Value.int .u64))) (hl : l.length = n2) (hn2 : n2 ≤ 200) (hB : B ≤ w.heap.size) (ht : right l = true) (hd : at_ < 0 ∨ (n : Int) ≤ at_) :
    Calls Try.prog 37 #[.slice A2 n2 c2, Words.st A n c at_] w fun e w' => e = .returned (.tuple #[.int .i64 0, Words.st A n c at_, .int .i64 50]) ∧ Below w.heap.size w w' := by
  have D := hide hd
  have T := hide ht
  have Hl := hide hl
  have HR := hide ((hr.alloc hB (Words.box A n c at_)).alloc (by simp; omega) (Words.box none 0 0 0))
  clear ht hl hr
  clear hd
  go_enter Try.func37, Try.ntmps37
  go_wp2_with (go_at_call 58; refine (cumul_right A2 n2 c2 B l _ HR.out Hl.out hn2).mono ?_; rintro e w' ⟨rfl, rfl⟩; simp only [T.out])
  refine (words_next_dry _ _ _ _ hn _ D.out).mono ?_; rintro e w1 ⟨rfl, hb1⟩
  have k0 := hold1 hb1 (p := ⟨w.heap.size, 0, none⟩) (v := .slice A n c) (by simp)
  have k1 := hold1 hb1 (p := ⟨w.heap.size, 1, none⟩) (v := .int .i64 at_) (by simp)
  have k2 := hold1 hb1 (p := ⟨w.heap.size + 1, 0, none⟩) (v := .slice none 0 0) (by simp [go_sem])
  have k3 := hold1 hb1 (p := ⟨w.heap.size + 1, 1, none⟩) (v := .int .i64 0) (by simp [go_sem])
  have f2 := holdf hb1 (p := ⟨w.heap.size + 1, 0, none⟩) (by simp) (by simp [go_sem])
  have f3 := holdf hb1 (p := ⟨w.heap.size + 1, 1, none⟩) (by simp) (by simp [go_sem])
  have z0 := sizes (szb (k := w.heap.size) hb1 (by simp; omega))
  have z1 := sizes (szb (k := w.heap.size + 1) hb1 (by simp))
  have hB := then_ (show Below w.heap.size w _ from by go_grown) hb1 (Nat.le_refl _)
  clear hb1
  go_wp2_with fail
  refine letter (w := w) (fun W => W.cell? ⟨w.heap.size, 0, none⟩ = some (.slice A n c) ∧ W.cell? ⟨w.heap.size, 1, none⟩ = some (.int .i64 at_) ∧ W.cell? ⟨w.heap.size + 1, 0, none⟩ = some (.slice none 0 0) ∧ W.cell? ⟨w.heap.size + 1, 1, none⟩ = some (.int .i64 0) ∧
    W.frozen? ⟨w.heap.size + 1, 0, none⟩ = false ∧ W.frozen? ⟨w.heap.size + 1, 1, none⟩ = false) (by simp [go_sem, *]) (hB.alloc z0.2.1 _) (by simp [*]) ?_
  clear k0 k1 k2 k3 f2 f3 z0 z1 hB HR
  rintro W ⟨k0, k1, k2, k3, f2, f3⟩ hB hz
  have s2 := set_same k2
  have s3 := set_same2 ⟨w.heap.size + 1, 0, none⟩ (by simp) k3
  go_region
  all_goals
    go_wp2_with fail
    exact bodyPost_ret (v := .tuple #[.int .i64 0, Words.st A n c at_, .int .i64 50]) (by simp [results, Try.results37, go_sem, s2, s3]) rfl ⟨rfl, by go_grown⟩

set_option maxRecDepth 100000 in
set_option maxHeartbeats 2000000 in
theorem draw_next_yes (b off n c k : Nat) (x : Int) (hn : n ≤ 1000000000) (w : World) (A2 : Option Addr) (n2 c2 B : Nat) (l : List Int) (hr : Rd w B 1 A2 n2 (l.map (Value.int .u64))) (hl : l.length = n2) (hn2 : n2 ≤ 200) (hB : B ≤ w.heap.size) (hk : k < n) (hc : w.cell? ⟨b, off + k, none⟩ = some (.int .u32 x))
    (hx : 0 ≤ x) (hx1 : x ≤ 4294967295) (ht : right l = true) (j : Nat) (hj : First l x j) :
    Calls Try.prog 37 #[.slice A2 n2 c2, Words.st (some ⟨b, off, none⟩) n c k] w fun e w' => e = .returned (.tuple #[.int .i64 j, Words.st (some ⟨b, off, none⟩) n c (k + 1), .int .i64 0]) ∧ Below w.heap.size w w' := by
  have hlt := World.block_lt_of_cell? w _ hc
  have Hc := hide hc
  have Hj := hide hj
  have Hri := hide ((right_iff l).1 ht).1
  have T := hide ht
  have Hl := hide hl
  have HR := hide ((hr.alloc hB (Words.box (some ⟨b, off, none⟩) n c k)).alloc (by simp; omega) (Words.box none 0 0 0))
  clear ht hl hr
  clear hc hj
  go_enter Try.func37, Try.ntmps37
  go_wp2_with (go_at_call 58; refine (cumul_right A2 n2 c2 B l _ HR.out Hl.out hn2).mono ?_; rintro e w' ⟨rfl, rfl⟩; simp only [T.out])
  refine (words_next b off n c k x hn _ hk (by simp [go_sem, Hc.out, sizes hlt])).mono ?_; rintro e w1 ⟨rfl, hb1⟩
  have k2 := hold1 hb1 (p := ⟨w.heap.size + 1, 0, none⟩) (v := .slice none 0 0) (by simp [go_sem])
  have k3 := hold1 hb1 (p := ⟨w.heap.size + 1, 1, none⟩) (v := .int .i64 0) (by simp [go_sem])
  have f2 := holdf hb1 (p := ⟨w.heap.size + 1, 0, none⟩) (by simp) (by simp [go_sem])
  have f3 := holdf hb1 (p := ⟨w.heap.size + 1, 1, none⟩) (by simp) (by simp [go_sem])
  have z0 := sizes (szb (k := w.heap.size) hb1 (by simp; omega))
  have z1 := sizes (szb (k := w.heap.size + 1) hb1 (by simp))
  have HR1 := hide (((HR.out.below (hb1.mono (by simp; omega))).alloc (by omega) (Words.box (some ⟨b, off, none⟩) n c (k + 1))))
  have hB2 := then_ (show Below w.heap.size w _ from by go_grown) hb1 (Nat.le_refl _)
  clear hb1
  go_wp2_with fail
  refine letter (w := w) (fun W => Rd W B 1 A2 n2 (l.map (Value.int .u64)) ∧ W.cell? ⟨w1.heap.size, 0, none⟩ = some (.slice (some ⟨b, off, none⟩) n c) ∧ W.cell? ⟨w1.heap.size, 1, none⟩ = some (.int .i64 ((k : Int) + 1)) ∧ W.cell? ⟨w.heap.size + 1, 0, none⟩ = some (.slice none 0 0) ∧ W.cell? ⟨w.heap.size + 1, 1, none⟩ = some (.int .i64 0) ∧
    W.frozen? ⟨w.heap.size + 1, 0, none⟩ = false ∧ W.frozen? ⟨w.heap.size + 1, 1, none⟩ = false) (And.intro HR1.out (by simp [go_sem, *])) (hB2.alloc z0.2.1 _) (by simp [*]) ?_
  have hne : w1.heap.size ≠ w.heap.size + 1 := by omega
  clear k2 k3 f2 f3 z0 z1 hB HR hB2
  generalize w1.heap.size = g at *
  rintro W ⟨hR, k0, k1, k2, k3, f2, f3⟩ hB hz
  have hne' : w.heap.size + 1 ≠ g := Ne.symm hne
  have HR := hide hR
  clear hR HR1
  have s2 := set_same k2
  have s3 := set_same2 ⟨w.heap.size + 1, 0, none⟩ (by simp) k3
  go_region_held3 (fun w' => w'.cell? ⟨g, 0, none⟩ = some (.slice (some ⟨b, off, none⟩) n c) ∧ w'.cell? ⟨g, 1, none⟩ = some (.int .i64 ((k : Int) + 1))) (go_keep)
    (first | (go_at_call 34; refine (draw_of_at A2 n2 c2 B l _ HR.out.drew Hl.out hn2 Hri.out x hx hx1 j Hj.out).mono ?_; rintro e w' ⟨rfl, rfl⟩))
  all_goals
    go_wp2_with fail
    exact bodyPost_ret (v := .tuple #[.int .i64 j, Words.st (some ⟨b, off, none⟩) n c (k + 1), .int .i64 0]) (by simp [results, Try.results37, go_sem, s2, s3]) rfl ⟨rfl, by go_grown⟩
end Go.Proofs.Ytikdkljknbgphaa
