/-
  Slices of trips; the walks of pulse.Arrivals, pulse.Outs and the law's bound.
-/
import Derived.Test.YtkgkilogjodccaaProg
import Derived.Test.YtkgkilogjodccaaOwn
namespace Go.Proofs.Ytkgkilogjodccaa
open Go.RowKit HB
set_option linter.unusedVariables false
set_option linter.unusedSimpArgs false
namespace HB
section
variable {P : Program} (w : World)
@[go_sem high] theorem run_max3 (ts : Array TypeId) (t : TypeId) (k k1 k2 : IntKind) (x y z : Int) : (Builtin.max_ ts t #[.int k x, .int k1 y, .int k2 z]).run P w = .ok (.int k (max (max x y) z)) w := by
  simp [Builtin.max_, max2_eq]
end
theorem cell_one_at (w : World) (e : TypeId) (v : Value) (g : Nat) (hg : g = w.heap.size) : ∀ j u, [v][j]? = some u → (w.alloc (.cells #[v] e)).cell? ((⟨g, 0, none⟩ : Addr).add j) = some u := by
  subst hg; exact cell_one_new w v e
structure Tr where
  id : Int
  arr : Int
  fr : Int
  to : Int
  car : Int
  brd : Int
  ali : Int
deriving Inhabited
/-- the cells of a trip -/
abbrev tr : Tr → List Value := fun p => [.int .i64 p.id, .int .i64 p.arr, .int .i64 p.fr, .int .i64 p.to, .int .i64 p.car, .int .i64 p.brd, .int .i64 p.ali]
theorem tr_len (p : Tr) : (tr p).length = 7 := rfl
/-- an element of a slice of trips -/
theorem Rd.trip_at {w : World} {B n : Nat} {A : Option Addr} {L : List Tr} (h : Rd w B 7 A n (L.flatMap tr)) (hl : L.length = n) {i : Nat} (hi : i < n) :
    ∃ b off x, A = some ⟨b, off, none⟩ ∧ b < B ∧ L[i]? = some x ∧ w.cell? ⟨b, off + i * 7, none⟩ = some (.int .i64 x.id) ∧ w.cell? ⟨b, off + i * 7 + 1, none⟩ = some (.int .i64 x.arr) ∧
      w.cell? ⟨b, off + i * 7 + 2, none⟩ = some (.int .i64 x.fr) ∧ w.cell? ⟨b, off + i * 7 + 3, none⟩ = some (.int .i64 x.to) ∧ w.cell? ⟨b, off + i * 7 + 4, none⟩ = some (.int .i64 x.car) ∧
      w.cell? ⟨b, off + i * 7 + 5, none⟩ = some (.int .i64 x.brd) ∧ w.cell? ⟨b, off + i * 7 + 6, none⟩ = some (.int .i64 x.ali) := by
  obtain ⟨b, off, x, hA, hb, hg, hc⟩ := h.elem_at tr_len hl hi
  exact ⟨b, off, x, hA, hb, hg, hc 0 _ (by omega) rfl, hc 1 _ (by omega) rfl, hc 2 _ (by omega) rfl, hc 3 _ (by omega) rfl, hc 4 _ (by omega) rfl, hc 5 _ (by omega) rfl, hc 6 _ (by omega) rfl⟩
end HB
namespace TripP
/-- a trip's ticks are none too great -/
def fine (x : Tr) : Prop := -1 ≤ x.arr ∧ -1 ≤ x.brd ∧ -1 ≤ x.ali ∧ x.arr ≤ 1073741824 ∧ x.brd ≤ 1073741824 ∧ x.ali ≤ 1073741824
def came (l : List Tr) : List Int := l.map (·.arr)
def outs (l : List Tr) : List Int := (l.filter fun x => decide (0 ≤ x.ali)).map (·.ali)
theorem came_next {l : List Tr} {k : Nat} {x : Tr} (h : l[k]? = some x) : came (l.take (k + 1)) = came (l.take k) ++ [x.arr] := by
  rw [List.take_add_one, h]; simp [came]
theorem outs_yes {l : List Tr} {k : Nat} {x : Tr} (h : l[k]? = some x) (hx : 0 ≤ x.ali) : outs (l.take (k + 1)) = outs (l.take k) ++ [x.ali] := by
  rw [List.take_add_one, h]; simp [outs, hx]
theorem outs_no {l : List Tr} {k : Nat} {x : Tr} (h : l[k]? = some x) (hx : x.ali < 0) : outs (l.take (k + 1)) = outs (l.take k) := by
  have hx2 : ¬ 0 ≤ x.ali := by omega
  rw [List.take_add_one, h]; simp [outs, hx2]
theorem came_length (l : List Tr) : (came l).length = l.length := by simp [came]
theorem outs_length (l : List Tr) : (outs l).length ≤ l.length := by simp only [outs, List.length_map]; exact List.length_filter_le _ _
end TripP
open TripP
theorem Trips.info : (Try.prog.info? 3).map (fun i => (i.zero, i.size, i.bytes)) = some (some (.int .i64 0), 1, 8) := by kernel_rfl
def Great.Post (l : List Tr) (n : Nat) (w : World) (e : Ending) (w' : World) : Prop :=
  ∃ b : Bool, e = .returned (.bool b) ∧ (b = false → n ≤ 100 ∧ ∀ x ∈ l, fine x) ∧ Below w.heap.size w w'
set_option maxRecDepth 100000 in
set_option maxHeartbeats 2000000 in
theorem great24 (A : Option Addr) (n c B : Nat) (l : List Tr) (w : World) (hr : Rd w B 7 A n (l.flatMap tr)) (hB : B ≤ w.heap.size) (hl : l.length = n) :
    Calls Try.prog 40 #[.slice A n c] w (Great.Post l n w) := by
  by_cases hn : 100 < n
  · have d1 : decide (100 < n) = true := by simpa using hn
    clear hr hl
    go_enter Try.func40, Try.ntmps40
    go_wp2_with fail
    go_ret
    exact ⟨true, rfl, fun h => (by cases h), Below.refl _ _⟩
  · have d1 : decide (100 < n) = false := by simp; omega
    have Hl := hide hl
    have HR := hide hr
    clear hl hr
    go_enter Try.func40, Try.ntmps40
    go_wp2_with fail
    go_loopw [3] (fun i wr => ∃ q : Nat, q ≤ n ∧ i = .int .i64 q ∧ (∀ x ∈ l.take q, fine x) ∧ Below w.heap.size w wr) (fun i _ => n - (intOf i).toNat)
    case atStart => exact ⟨0, Nat.zero_le _, rfl, by simp, Below.refl _ _⟩
    case round =>
      obtain ⟨q, hq, rfl, hall, hbel⟩ := hrel
      have HA := hide hall
      have hz := hbel.size
      clear hall
      by_cases hlt : q < n
      · obtain ⟨b, off, x, rfl, hb, hg, c0, c1, c2, c3, c4, c5, c6⟩ := (HR.out.below (hbel.mono hB)).trip_at Hl.out hlt
        have Hg := hide hg
        clear hg
        have hnx : fine x → ∀ y ∈ l.take (q + 1), fine y := fun hx => by
          rw [List.take_add_one, Hg.out]
          intro y hy
          rcases List.mem_append.1 hy with hy | hy
          · exact HA.out y hy
          · simp at hy; subst hy; exact hx
        have HN := hide hnx
        clear hnx
        by_cases h1 : x.arr < -1
        · go_wp2_with fail
          go_ret
          exact ⟨true, rfl, fun h => (by cases h), hbel.alloc hz _⟩
        · by_cases h2 : x.brd < -1
          · go_wp2_with fail
            go_ret
            exact ⟨true, rfl, fun h => (by cases h), hbel.alloc hz _⟩
          · by_cases h3 : x.ali < -1
            · go_wp2_with fail
              go_ret
              exact ⟨true, rfl, fun h => (by cases h), hbel.alloc hz _⟩
            · by_cases h4 : 1073741824 < max (max x.arr x.brd) x.ali
              · go_wp2_with fail
                go_ret
                exact ⟨true, rfl, fun h => (by cases h), hbel.alloc hz _⟩
              · have hf := hide (HN.out ⟨by omega, by omega, by omega, by omega, by omega, by omega⟩)
                go_wp2_with fail
                go_roundw
                case rel => exact ⟨q + 1, by omega, by go_num, hf.out, hbel.alloc hz _⟩
                case measure => simp [intOf]; omega
      · have hA2 := HA.out
        rw [List.take_of_length_le (by rw [Hl.out]; omega)] at hA2
        have H2 := hide hA2
        clear hA2
        go_wp2_with fail
        go_ret
        exact ⟨false, rfl, fun _ => ⟨by omega, H2.out⟩, hbel⟩

set_option maxRecDepth 100000 in
set_option maxHeartbeats 2000000 in
theorem arrivals (A : Option Addr) (n c B : Nat) (l : List Tr) (w : World) (hr : Rd w B 7 A n (l.flatMap tr)) (hB : B ≤ w.heap.size) (hl : l.length = n) (hn : n ≤ 100) :
    Calls Try.prog 41 #[.slice A n c] w fun e w' => (∃ v, e = .returned v ∧ Own w' w.heap.size 3 1 (num .i64) v (came l)) ∧ Below w.heap.size w w' := by
  have Hl := hide hl
  have HR := hide hr
  clear hl hr
  go_enter Try.func41, Try.ntmps41
  go_wp2_with fail
  go_loopw [3, 8] (fun o i wr => ∃ q : Nat, q ≤ n ∧ i = .int .i64 q ∧ Own wr w.heap.size 3 1 (num .i64) o (came (l.take q)) ∧ Below w.heap.size w wr) (fun _ i _ => n - (intOf i).toNat)
  case atStart => exact ⟨0, Nat.zero_le _, rfl, Own.nil _ _ _ _ _, Below.refl _ _⟩
  case round =>
    obtain ⟨q, hq, rfl, hown, hbel⟩ := hrel
    have HO := hide hown
    have hz := hbel.size
    clear hown
    by_cases hlt : q < n
    · obtain ⟨b, off, x, rfl, hb, hg, c0, c1, c2, c3, c4, c5, c6⟩ := (HR.out.below (hbel.mono hB)).trip_at Hl.out hlt
      have hnx := hide (came_next hg)
      have hL : (came (l.take q)).length ≤ 1000000000 := by rw [came_length, List.length_take]; omega
      clear hg
      go_wp2_with (at_builtin; refine push rfl _ _ 35 rfl Try.underlying35 Trips.info rfl (by omega) (by omega) rfl ((HO.out.alloc _).alloc _) x.arr ⟨_, 0, none⟩ 1 rfl rfl (cell_one_at _ _ _ _ (by simp)) (by simp [Value.oneCell']) hL (by go_size) ?_; intro v' w1 hown1 hb1)
      go_roundw
      case rel => exact ⟨q + 1, by omega, by go_num, by rw [hnx.out]; exact hown1, ((hbel.alloc hz _).alloc (by simp; omega) _).trans hb1⟩
      case measure => simp [intOf]; omega
    · have he := hide (show l.take q = l from List.take_of_length_le (by rw [Hl.out]; omega))
      go_wp2_with fail
      go_ret
      exact ⟨⟨_, rfl, by rw [← he.out]; exact HO.out⟩, hbel⟩

set_option maxRecDepth 100000 in
set_option maxHeartbeats 2000000 in
theorem pulse_outs (A : Option Addr) (n c B : Nat) (l : List Tr) (w : World) (hr : Rd w B 7 A n (l.flatMap tr)) (hB : B ≤ w.heap.size) (hl : l.length = n) (hn : n ≤ 100) :
    Calls Try.prog 42 #[.slice A n c] w fun e w' => (∃ v, e = .returned v ∧ Own w' w.heap.size 3 1 (num .i64) v (outs l)) ∧ Below w.heap.size w w' := by
  have Hl := hide hl
  have HR := hide hr
  clear hl hr
  go_enter Try.func42, Try.ntmps42
  go_wp2_with fail
  go_loopw [3, 8] (fun o i wr => ∃ q : Nat, q ≤ n ∧ i = .int .i64 q ∧ Own wr w.heap.size 3 1 (num .i64) o (outs (l.take q)) ∧ Below w.heap.size w wr) (fun _ i _ => n - (intOf i).toNat)
  case atStart => exact ⟨0, Nat.zero_le _, rfl, Own.nil _ _ _ _ _, Below.refl _ _⟩
  case round =>
    obtain ⟨q, hq, rfl, hown, hbel⟩ := hrel
    have HO := hide hown
    have hz := hbel.size
    clear hown
    by_cases hlt : q < n
    · obtain ⟨b, off, x, rfl, hb, hg, c0, c1, c2, c3, c4, c5, c6⟩ := (HR.out.below (hbel.mono hB)).trip_at Hl.out hlt
      have hL : (outs (l.take q)).length ≤ 1000000000 := by have := outs_length (l.take q); rw [List.length_take] at this; omega
      by_cases hx : 0 ≤ x.ali
      · have hnx := hide (outs_yes hg hx)
        have d1 : decide (0 ≤ x.ali) = true := by simpa using hx
        clear hg
        go_wp2_with (at_builtin; refine push rfl _ _ 35 rfl Try.underlying35 Trips.info rfl (by omega) (by omega) rfl ((HO.out.alloc _).alloc _) x.ali ⟨_, 0, none⟩ 1 rfl rfl (cell_one_at _ _ _ _ (by simp)) (by simp [Value.oneCell']) hL (by go_size) ?_; intro v' w1 hown1 hb1)
        go_roundw
        case rel => exact ⟨q + 1, by omega, by go_num, by rw [hnx.out]; exact hown1, ((hbel.alloc hz _).alloc (by simp; omega) _).trans hb1⟩
        case measure => simp [intOf]; omega
      · have hnx := hide (outs_no hg (by omega))
        have d1 : decide (0 ≤ x.ali) = false := by simpa using hx
        clear hg
        go_wp2_with fail
        go_roundw
        case rel => exact ⟨q + 1, by omega, by go_num, by rw [hnx.out]; exact HO.out.alloc _, hbel.alloc hz _⟩
        case measure => simp [intOf]; omega
    · have he := hide (show l.take q = l from List.take_of_length_le (by rw [Hl.out]; omega))
      go_wp2_with fail
      go_ret
      exact ⟨⟨_, rfl, by rw [← he.out]; exact HO.out⟩, hbel⟩
end Go.Proofs.Ytkgkilogjodccaa
