/-
  Slices of passengers: how they read, a field stored in place; the walks of people.Up, number, Mirror, Back, Within.
-/
import Derived.Test.YtkgkilogjodccaaProg
import Derived.Test.YtkgkilogjodccaaOwn2
import Derived.OneCell
import Derived.BigRegion
namespace Go.Proofs.Ytkgkilogjodccaa
open Go.RowKit HB
set_option linter.unusedVariables false
set_option linter.unusedSimpArgs false
namespace HB
theorem cell_one_at' (w : World) (e : TypeId) (v : Value) (g : Nat) (hg : g = w.heap.size) : ∀ j u, [v][j]? = some u → (w.alloc (.cells #[v] e)).cell? ((⟨g, 0, none⟩ : Addr).add j) = some u := by
  subst hg; exact cell_one_new w v e
theorem cells_new (w : World) (e : TypeId) (cs : List Value) (g : Nat) (hg : g = w.heap.size) : ∀ j u, cs[j]? = some u → (w.alloc (.cells cs.toArray e)).cell? ((⟨g, 0, none⟩ : Addr).add j) = some u := by
  subst hg
  intro j u hu
  have key : ∀ j, (w.alloc (.cells cs.toArray e)).cell? ⟨w.heap.size, j, none⟩ = cs[j]? := fun j => by
    rw [cell_of_row _ w.heap.size j cs.toArray e (0, 0) (heap_alloc_new w _)]; simp
  unfold Addr.add
  split
  · rename_i h; subst h; rw [key]; exact hu
  · rw [Nat.zero_add, key]; exact hu
/-- a cell of an element is set -/
theorem flat_setG {α : Type} {f : α → List Value} {sz : Nat} (hf : ∀ x, (f x).length = sz) {x x' : α} {j : Nat} {u : Value} (hx : f x' = (f x).set j u) (hj : j < sz) : ∀ (L : List α) (z : Nat), L[z]? = some x → (L.flatMap f).set (z * sz + j) u = (L.set z x').flatMap f
  | [], z, h => by simp at h
  | y :: L, 0, h => by
    simp at h; subst h
    rw [Nat.zero_mul, Nat.zero_add, List.flatMap_cons, List.set_cons_zero, List.flatMap_cons, hx, List.set_append_left _ _ (by rw [hf]; exact hj)]
  | y :: L, z + 1, h => by
    rw [List.getElem?_cons_succ] at h
    rw [List.flatMap_cons, List.set_cons_succ, List.flatMap_cons, List.set_append_right _ _ (by rw [hf, Nat.succ_mul]; omega), hf, show (z + 1) * sz + j - sz = z * sz + j by rw [Nat.succ_mul]; omega, flat_setG hf hx hj L z h]
/-- a field of an element is stored -/
theorem Own.storeF {α : Type} {f : α → List Value} {base sz : Nat} {w : World} {e : TypeId} {g n c : Nat} {L : List α} (hf : ∀ x, (f x).length = sz) (h : Own w base e sz f (.slice (some ⟨g, 0, none⟩) n c) L) (hl : L.length = n) {z j : Nat} {x x' : α} {u : Value} (hz : L[z]? = some x) (hx : f x' = (f x).set j u) (hj : j < sz) :
    Own (w.setCell ⟨g, z * sz + j, none⟩ u) base e sz f (.slice (some ⟨g, 0, none⟩) n c) (L.set z x') ∧ Below base w (w.setCell ⟨g, z * sz + j, none⟩ u) := by
  subst hl
  have h1 := World.ownsRow.stored h.row (z * sz + j) u
  refine ⟨?_, (Below.refl _ _).setCell (h.row.lt g rfl).1 _⟩
  show World.ownsRow _ base e sz _ (L.set z x').length ((L.set z x').flatMap f)
  rw [List.length_set, ← flat_setG hf hx hj L z hz]
  exact h1.1
/-- a cell of an element, and its mark -/
theorem Own.elem_cell {α : Type} {f : α → List Value} {base sz : Nat} {w : World} {e : TypeId} {g n c : Nat} {L : List α} (hf : ∀ x, (f x).length = sz) (h : Own w base e sz f (.slice (some ⟨g, 0, none⟩) n c) L) (hl : L.length = n) {z j : Nat} {x : α} {u : Value} (hz : L[z]? = some x) (hj : j < sz) (hu : (f x)[j]? = some u) :
    w.cell? ⟨g, z * sz + j, none⟩ = some u ∧ w.frozen? ⟨g, z * sz + j, none⟩ = false := by
  subst hl
  have hzl : z < L.length := (List.getElem?_eq_some_iff.1 hz).1
  have hlt : z * sz + j < L.length * sz := by
    have : (z + 1) * sz ≤ L.length * sz := Nat.mul_le_mul_right _ hzl
    rw [Nat.succ_mul] at this; omega
  refine ⟨?_, World.ownsRow.frozenAt h.row _⟩
  rw [World.ownsRow.cellAt h.row _ hlt, flat_get hf L z j _ hz hj]; exact hu
structure Pa where
  id : Int
  tick : Int
  fr : Int
  to : Int
deriving Inhabited
/-- the cells of a passenger -/
abbrev pa : Pa → List Value := fun p => [.int .i64 p.id, .int .i64 p.tick, .int .i64 p.fr, .int .i64 p.to]
theorem pa_len (p : Pa) : (pa p).length = 4 := rfl
/-- an element of a slice of passengers -/
theorem Rd.pa_at {w : World} {B n : Nat} {A : Option Addr} {L : List Pa} (h : Rd w B 4 A n (L.flatMap pa)) (hl : L.length = n) {i : Nat} (hi : i < n) :
    ∃ b off x, A = some ⟨b, off, none⟩ ∧ b < B ∧ L[i]? = some x ∧ w.cell? ⟨b, off + i * 4, none⟩ = some (.int .i64 x.id) ∧ w.cell? ⟨b, off + i * 4 + 1, none⟩ = some (.int .i64 x.tick) ∧
      w.cell? ⟨b, off + i * 4 + 2, none⟩ = some (.int .i64 x.fr) ∧ w.cell? ⟨b, off + i * 4 + 3, none⟩ = some (.int .i64 x.to) := by
  obtain ⟨b, off, x, hA, hb, hg, hc⟩ := h.elem_at pa_len hl hi
  exact ⟨b, off, x, hA, hb, hg, hc 0 _ (by omega) rfl, hc 1 _ (by omega) rfl, hc 2 _ (by omega) rfl, hc 3 _ (by omega) rfl⟩
/-- .. of one of the call's own -/
theorem Own.pa_at {base : Nat} {w : World} {e : TypeId} {g n c : Nat} {L : List Pa} (h : Own w base e 4 pa (.slice (some ⟨g, 0, none⟩) n c) L) (hl : L.length = n) {z : Nat} {x : Pa} (hz : L[z]? = some x) :
    (w.cell? ⟨g, z * 4, none⟩ = some (.int .i64 x.id) ∧ w.cell? ⟨g, z * 4 + 1, none⟩ = some (.int .i64 x.tick) ∧ w.cell? ⟨g, z * 4 + 2, none⟩ = some (.int .i64 x.fr) ∧ w.cell? ⟨g, z * 4 + 3, none⟩ = some (.int .i64 x.to)) ∧
    (w.frozen? ⟨g, z * 4, none⟩ = false ∧ w.frozen? ⟨g, z * 4 + 1, none⟩ = false ∧ w.frozen? ⟨g, z * 4 + 2, none⟩ = false ∧ w.frozen? ⟨g, z * 4 + 3, none⟩ = false) := by
  have h0 := h.elem_cell pa_len hl (j := 0) hz (by omega) rfl
  have h1 := h.elem_cell pa_len hl (j := 1) hz (by omega) rfl
  have h2 := h.elem_cell pa_len hl (j := 2) hz (by omega) rfl
  have h3 := h.elem_cell pa_len hl (j := 3) hz (by omega) rfl
  exact ⟨⟨h0.1, h1.1, h2.1, h3.1⟩, h0.2, h1.2, h2.2, h3.2⟩
end HB
namespace PeopleP
/-- the first k have been turned -/
def upto (f : Nat → Pa → Pa) (l : List Pa) (k : Nat) : List Pa := l.mapIdx fun i x => if i < k then f i x else x
theorem upto_length (f : Nat → Pa → Pa) (l : List Pa) (k : Nat) : (upto f l k).length = l.length := by simp [upto]
theorem upto_zero (f : Nat → Pa → Pa) (l : List Pa) : upto f l 0 = l := by
  unfold upto
  apply List.ext_getElem?
  intro i
  simp [List.getElem?_mapIdx]
theorem upto_at {f : Nat → Pa → Pa} {l : List Pa} {k : Nat} {x : Pa} (h : l[k]? = some x) : (upto f l k)[k]? = some x := by
  unfold upto
  rw [List.getElem?_mapIdx, h]; simp
theorem upto_next {f : Nat → Pa → Pa} {l : List Pa} {k : Nat} {x : Pa} (h : l[k]? = some x) : (upto f l k).set k (f k x) = upto f l (k + 1) := by
  apply List.ext_getElem?
  intro i
  have hk : k < l.length := (List.getElem?_eq_some_iff.1 h).1
  rw [List.getElem?_set, upto_length]
  by_cases hi : k = i
  · subst hi
    have hx : l[k] = x := (List.getElem?_eq_some_iff.1 h).2
    simp [upto, List.getElem?_mapIdx, hk, hx]
  · rw [if_neg hi]
    unfold upto
    rw [List.getElem?_mapIdx, List.getElem?_mapIdx]
    have : (i < k + 1) = (i < k) := by apply propext; omega
    simp only [this]
/-- all are turned -/
def all (f : Nat → Pa → Pa) (l : List Pa) : List Pa := l.mapIdx f
theorem all_length (f : Nat → Pa → Pa) (l : List Pa) : (all f l).length = l.length := by simp [all]
theorem upto_all (f : Nat → Pa → Pa) (l : List Pa) : upto f l l.length = all f l := by
  unfold upto all
  apply List.ext_getElem?
  intro i
  rw [List.getElem?_mapIdx, List.getElem?_mapIdx]
  cases h : l[i]? with
  | none => rfl
  | some x => simp [(List.getElem?_eq_some_iff.1 h).1]
theorem all_next {f : Nat → Pa → Pa} {l : List Pa} {k : Nat} {x : Pa} (h : l[k]? = some x) : all f (l.take (k + 1)) = all f (l.take k) ++ [f k x] := by
  have hk : k < l.length := (List.getElem?_eq_some_iff.1 h).1
  rw [List.take_add_one, h]
  unfold all
  rw [List.mapIdx_append]
  simp [List.length_take, Nat.min_eq_left (Nat.le_of_lt hk)]
theorem all_snoc (f : Nat → Pa → Pa) (l : List Pa) (x : Pa) : all f (l ++ [x]) = all f l ++ [f l.length x] := by
  unfold all; rw [List.mapIdx_append]; simp
def setId : Nat → Pa → Pa := fun i x => { x with id := i }
def later (n : Int) : Nat → Pa → Pa := fun _ x => { x with tick := x.tick + n }
def mirror (n : Int) : Nat → Pa → Pa := fun _ x => { x with fr := n - 1 - x.fr, to := n - 1 - x.to }
def back : Nat → Pa → Pa := fun _ x => { x with fr := x.to, to := x.fr }
/-- within a span -/
def inside (a b : Int) (l : List Pa) : List Pa := l.filter fun x => decide (a ≤ x.tick ∧ x.tick < b)
theorem inside_yes {a b : Int} {l : List Pa} {k : Nat} {x : Pa} (h : l[k]? = some x) (hx : a ≤ x.tick ∧ x.tick < b) : inside a b (l.take (k + 1)) = inside a b (l.take k) ++ [x] := by
  rw [List.take_add_one, h]; simp [inside, List.filter_append, List.filter_cons, hx]
theorem inside_no {a b : Int} {l : List Pa} {k : Nat} {x : Pa} (h : l[k]? = some x) (hx : ¬ (a ≤ x.tick ∧ x.tick < b)) : inside a b (l.take (k + 1)) = inside a b (l.take k) := by
  rw [List.take_add_one, h]; simp [inside, List.filter_append, List.filter_cons, hx]
theorem inside_length (a b : Int) (l : List Pa) : (inside a b l).length ≤ l.length := List.length_filter_le _ _
/-- how many go up -/
def ups (l : List Pa) : Int := ((l.filter fun x => decide (x.fr < x.to)).length : Int)
theorem ups_next {l : List Pa} {k : Nat} {x : Pa} (h : l[k]? = some x) : ups (l.take (k + 1)) = ups (l.take k) + if x.fr < x.to then 1 else 0 := by
  rw [List.take_add_one, h]
  unfold ups
  rw [List.filter_append]
  by_cases hx : x.fr < x.to <;> simp [hx, List.filter_cons]
theorem ups_range (l : List Pa) : 0 ≤ ups l ∧ ups l ≤ l.length := by
  unfold ups
  have := List.length_filter_le (fun x : Pa => decide (x.fr < x.to)) l
  omega
def fine (x : Pa) : Prop := -1099511627776 ≤ x.id ∧ -1099511627776 ≤ x.tick ∧ -1099511627776 ≤ x.fr ∧ -1099511627776 ≤ x.to ∧ x.id ≤ 1099511627776 ∧ x.tick ≤ 1099511627776 ∧ x.fr ≤ 1099511627776 ∧ x.to ≤ 1099511627776
end PeopleP
open PeopleP
theorem bdrew {B : Nat} {a w : World} (h : Below B a w) : Below B a w.drew := ⟨h.os, h.tape, h.output, h.size, h.block⟩
theorem letter2' {Q : World → Prop} {w W : World} {B : Nat} (hs : B ≤ w.heap.size) (S : World → Prop) (hS : S W) (hb : Below w.heap.size w W) (h : ∀ W' : World, S W' → Below w.heap.size w W' → Q W') : Q W := h W hS hb
theorem People.info : (Try.prog.info? 68).map (fun i => (i.zero, i.size, i.bytes)) = some (some (.agg #[.int .i64 0, .int .i64 0, .int .i64 0, .int .i64 0]), 4, 32) := by kernel_rfl

set_option maxRecDepth 100000 in
set_option maxHeartbeats 1000000 in
theorem eqPa_same (A A' : Option Addr) (n c c' B B' : Nat) (L : List Pa) (w : World) (hx : Rd w B 4 A n (L.flatMap pa)) (hy : Rd w B' 4 A' n (L.flatMap pa)) (hl : L.length = n) (hn : n ≤ 1000000) :
    Calls Try.prog 46 #[.slice A n c, .slice A' n c'] w fun e w' => e = .returned (.bool true) ∧ ∃ m, w' = w.drewN m := by
  have Hl := hide hl
  clear hl
  have hneq : ((n : Int) != (n : Int)) = false := by simp
  go_enter Try.func46, Try.ntmps46
  go_wp2_with fail
  go_loopw [13] (fun i wr => ∃ k m : Nat, k ≤ n ∧ i = .int .i64 k ∧ wr = w.drewN m) (fun i _ => n - (intOf i).toNat)
  case atStart => exact ⟨0, 0, Nat.zero_le _, rfl, rfl⟩
  case round =>
    obtain ⟨k, m, hk, rfl, rfl⟩ := hrel
    by_cases hlt : k < n
    · obtain ⟨b, off, x, rfl, hb, hg, c0, c1, c2, c3⟩ := hx.pa_at Hl.out hlt
      obtain ⟨b', off', x', rfl, hb', hg', c0', c1', c2', c3'⟩ := hy.pa_at Hl.out hlt
      rw [hg] at hg'
      obtain rfl := Option.some.inj hg'
      have i0 : (0 : Int) ≤ (k : Int) := by omega
      have i1 : (k : Int) < (n : Int) := by omega
      clear hg hg' hx hy
      go_wp2_with fail
      go_quiet (fail)
      go_wp2_with fail
      go_roundw
      case rel => exact ⟨k + 1, _, by omega, by go_num, rfl⟩
      case measure => simp [intOf]; omega
    · go_wp2_with fail
      go_ret
      exact ⟨rfl, m, rfl⟩

set_option maxRecDepth 100000 in
set_option maxHeartbeats 2000000 in
theorem people_up (A : Option Addr) (n c B : Nat) (l : List Pa) (w : World) (hr : Rd w B 4 A n (l.flatMap pa)) (hB : B ≤ w.heap.size) (hl : l.length = n) (hn : n ≤ 100) :
    Calls Try.prog 45 #[.slice A n c] w fun e w' => e = .returned (.tuple #[.int .i64 (ups l), .int .i64 (n - ups l)]) ∧ Below w.heap.size w w' := by
  have Hl := hide hl
  have HR := hide hr
  clear hl hr
  go_enter Try.func45, Try.ntmps45
  go_wp2_with fail
  go_loopw [4, 9] (fun u i wr => ∃ q : Nat, q ≤ n ∧ i = .int .i64 q ∧ u = .int .i64 (ups (l.take q)) ∧ Below w.heap.size w wr) (fun _ i _ => n - (intOf i).toNat)
  case atStart => exact ⟨0, Nat.zero_le _, rfl, rfl, Below.refl _ _⟩
  case round =>
    obtain ⟨q, hq, rfl, rfl, hbel⟩ := hrel
    have hz := hbel.size
    have hrg := ups_range (l.take q)
    have hlq : (l.take q).length ≤ 100 := by rw [List.length_take, Hl.out]; omega
    by_cases hlt : q < n
    · obtain ⟨b, off, x, rfl, hb, hg, c0, c1, c2, c3⟩ := (HR.out.below (hbel.mono hB)).pa_at Hl.out hlt
      have hnx := hide (ups_next hg)
      have r1 := hrg.1
      have r2 : ups (l.take q) ≤ 100 := by omega
      clear hg hrg
      generalize ups (l.take q) = u at *
      by_cases hx : x.fr < x.to
      · have hE := hide (show ups (l.take (q + 1)) = u + 1 by rw [hnx.out, if_pos hx])
        clear hnx
        go_wp2_with fail
        go_roundw
        case rel => exact ⟨q + 1, by omega, by go_num, by rw [hE.out], hbel.alloc hz _⟩
        case measure => simp [intOf]; omega
      · have hE := hide (show ups (l.take (q + 1)) = u by rw [hnx.out, if_neg hx]; omega)
        clear hnx
        go_wp2_with fail
        go_roundw
        case rel => exact ⟨q + 1, by omega, by go_num, by rw [hE.out], hbel.alloc hz _⟩
        case measure => simp [intOf]; omega
    · have he : l.take q = l := List.take_of_length_le (by rw [Hl.out]; omega)
      rw [he] at hrg hlq ⊢
      have r1 := hrg.1
      have r2 : ups l ≤ 100 := by omega
      clear hrg he
      generalize hu : ups l = u at *
      have HU := hide hu
      clear hu
      go_wp2_with fail
      go_ret2
      rw [HU.out]
      exact ⟨rfl, hbel⟩

set_option maxRecDepth 100000 in
set_option maxHeartbeats 2000000 in
theorem people_number (v : Value) (base : Nat) (l : List Pa) (w : World) (hown : Own w base 68 4 pa v l) (hn : l.length ≤ 100) :
    Calls Try.prog 61 #[v] w fun e w' => (e = .returned v ∧ Own w' base 68 4 pa v (all setId l)) ∧ Below base w w' := by
  obtain ⟨A, c, rfl, hc, -⟩ := hown.shape
  have HO0 := hide (show Own w base 68 4 pa (.slice A l.length c) (upto setId l 0) by rw [upto_zero]; exact hown)
  obtain ⟨n, hnl⟩ : ∃ n, n = l.length := ⟨_, rfl⟩
  rw [← hnl] at HO0 hn hc ⊢
  have Hl := hide hnl
  clear hown hnl
  go_enter Try.func61, Try.ntmps61
  go_wp2_with fail
  go_loopw [6] (fun i wr => ∃ q : Nat, q ≤ n ∧ i = .int .i64 q ∧ Own wr base 68 4 pa (.slice A n c) (upto setId l q) ∧ Below base w wr) (fun i _ => n - (intOf i).toNat)
  case atStart => exact ⟨0, Nat.zero_le _, rfl, HO0.out, Below.refl _ _⟩
  case round =>
    clear HO0
    obtain ⟨q, hq, rfl, hown, hbel⟩ := hrel
    have HO := hide hown
    clear hown
    by_cases hlt : q < n
    · obtain ⟨g, cap, hv, hgB, hgW, hcap, -, -⟩ := HO.out.at_ (by rw [upto_length, ← Hl.out]; omega)
      simp only [Value.slice.injEq] at hv
      obtain ⟨rfl, -, rfl⟩ := hv
      obtain ⟨x, hx⟩ : ∃ x, l[q]? = some x := ⟨_, List.getElem?_eq_getElem (by rw [← Hl.out]; omega)⟩
      have hu : (upto setId l q).length = n := by rw [upto_length, ← Hl.out]
      obtain ⟨⟨c0, c1, c2, c3⟩, f0, f1, f2, f3⟩ := HO.out.pa_at hu (upto_at hx)
      have hst := hide (HO.out.storeF pa_len hu (j := 0) (u := .int .i64 (q : Int)) (upto_at (f := setId) hx) (x' := setId q x) rfl (by omega))
      have hnx := hide (upto_next (f := setId) hx)
      clear hu hx HO
      go_wp2_with fail
      go_roundw
      case rel => exact ⟨q + 1, by omega, by go_num, by rw [← hnx.out]; exact hst.out.1, hbel.trans hst.out.2⟩
      case measure => simp [intOf]; omega
    · have he := hide (show upto setId l q = all setId l by rw [← upto_all, ← Hl.out, show q = n by omega])
      go_wp2_with fail
      go_ret
      exact ⟨⟨rfl, by rw [← he.out]; exact HO.out⟩, hbel⟩

set_option maxRecDepth 100000 in
set_option maxHeartbeats 4000000 in
theorem people_mirror (A : Option Addr) (n c B : Nat) (l : List Pa) (N : Int) (w : World) (hr : Rd w B 4 A n (l.flatMap pa)) (hB : B ≤ w.heap.size) (hl : l.length = n) (hn : n ≤ 100) (hf : ∀ x ∈ l, fine x) (h1 : -1099511627776 ≤ N) (h2 : N ≤ 1099511627776) :
    Calls Try.prog 48 #[.slice A n c, .int .i64 N] w fun e w' => (∃ v, e = .returned v ∧ Own w' w.heap.size 68 4 pa v (all (mirror N) l)) ∧ Below w.heap.size w w' := by
  have Hl := hide hl
  have HR := hide hr
  have HF := hide hf
  clear hl hr hf
  go_enter Try.func48, Try.ntmps48
  go_wp2_with (at_builtin; refine pushAll rfl _ _ 63 rfl Try.underlying63 People.info rfl (by omega) (by omega) rfl (Own.nil w w.heap.size 68 4 pa) l B A n c rfl Hl.out HR.out (by intro u hu; obtain ⟨z, _, hz⟩ := List.mem_flatMap.1 hu; simp at hz; rcases hz with rfl | rfl | rfl | rfl <;> rfl) (by simp) (by omega) (Nat.le_refl _) ?_; intro v w1 hown hb1; have hown2 : Own w1 w.heap.size 68 4 pa v (upto (mirror N) l 0) := (by rw [upto_zero]; simpa using hown); obtain ⟨A1, c1, hv, hc1, -⟩ := hown2.shape; rw [upto_length, Hl.out] at hv hc1; subst hv; have HO0 := hide hown2; clear hown hown2)
  go_loopw [12] (fun i wr => ∃ q : Nat, q ≤ n ∧ i = .int .i64 q ∧ Own wr w.heap.size 68 4 pa (.slice A1 n c1) (upto (mirror N) l q) ∧ Below w.heap.size w wr) (fun i _ => n - (intOf i).toNat)
  case atStart => exact ⟨0, Nat.zero_le _, rfl, HO0.out, hb1⟩
  case round =>
    clear HO0 hb1
    obtain ⟨q, hq, rfl, hown, hbel⟩ := hrel
    have HO := hide hown
    have hz := hbel.size
    clear hown
    by_cases hlt : q < n
    · have hu : (upto (mirror N) l q).length = n := by rw [upto_length, Hl.out]
      obtain ⟨g, cap, hv, hgB, hgW, hcap, -, -⟩ := HO.out.at_ (by rw [hu]; omega)
      simp only [Value.slice.injEq] at hv
      obtain ⟨rfl, -, rfl⟩ := hv
      obtain ⟨x, hx⟩ : ∃ x, l[q]? = some x := ⟨_, List.getElem?_eq_getElem (by rw [Hl.out]; omega)⟩
      obtain ⟨p1, p2, p3, p4, p5, p6, p7, p8⟩ := HF.out x (List.mem_of_getElem? hx)
      obtain ⟨⟨c0, c1', c2, c3⟩, f0, f1, f2, f3⟩ := HO.out.pa_at hu (upto_at hx)
      have HX := hide hx
      have hu2 := hide hu
      clear hu hx
      go_wp2_with fail
      refine letter2' (w := wr) (B := 0) (hs := Nat.zero_le _) (fun W => Own W w.heap.size 68 4 pa (.slice (some ⟨g, 0, none⟩) n c1) (upto (mirror N) l q) ∧ W.cell? ⟨wr.heap.size, 2, none⟩ = some (.int .i64 x.fr) ∧ W.cell? ⟨wr.heap.size, 3, none⟩ = some (.int .i64 x.to))
        ⟨HO.out.alloc _, by simp [go_sem], by simp [go_sem]⟩ (show Below wr.heap.size wr _ from by go_grown) ?_
      clear c0 c1' c2 c3 f0 f1 f2 f3 HO
      rintro W ⟨hO, b2, b3⟩ hbW
      have hbB := hbel.trans (hbW.mono hz)
      obtain ⟨⟨c0, c1', c2, c3⟩, f0, f1, f2, f3⟩ := hO.pa_at hu2.out (upto_at HX.out)
      have i0 : (0 : Int) ≤ (q : Int) := by omega
      have i1 : (q : Int) < (n : Int) := by omega
      have hgne : g ≠ wr.heap.size := by omega
      have e1 : IntKind.i64.wrap (N - 1) = N - 1 := IntWalk.i64_in _ (by omega)
      have e2 : IntKind.i64.wrap (N - 1 - x.fr) = N - 1 - x.fr := IntWalk.i64_in _ (by omega)
      have e3 : IntKind.i64.wrap (N - 1 - x.to) = N - 1 - x.to := IntWalk.i64_in _ (by omega)
      have hst1 := hide (hO.storeF pa_len hu2.out (j := 2) (u := .int .i64 (N - 1 - x.fr)) (upto_at (f := (mirror N)) HX.out) (x' := { x with fr := N - 1 - x.fr }) rfl (by omega))
      have hst2 := hide (hst1.out.1.storeF pa_len (by rw [List.length_set]; exact hu2.out) (j := 3) (u := .int .i64 (N - 1 - x.to)) (z := q) (x := { x with fr := N - 1 - x.fr }) (by rw [List.getElem?_set_self (by rw [hu2.out]; omega)]) (x' := { x with fr := N - 1 - x.fr, to := N - 1 - x.to }) rfl (by omega))
      have hnx := hide (show ((upto (mirror N) l q).set q { x with fr := N - 1 - x.fr }).set q { x with fr := N - 1 - x.fr, to := N - 1 - x.to } = upto (mirror N) l (q + 1) by rw [List.set_set]; exact upto_next (f := (mirror N)) HX.out)
      have s3 := (World.cell?_setCell_other W ⟨g, q * 4 + 2, none⟩ ⟨g, q * 4 + 3, none⟩ (.int .i64 (N - 1 - x.fr)) (by simp)).trans c3
      clear hO
      go_region
      all_goals
        clear e1 e2 e3
        go_wp2_with fail
        go_roundw
        case rel => exact ⟨q + 1, by omega, by go_num, by rw [← hnx.out]; exact hst2.out.1, bdrew ((hbB.trans hst1.out.2).trans hst2.out.2)⟩
        case measure => simp [intOf]; omega
    · have he := hide (show upto (mirror N) l q = all (mirror N) l by rw [← upto_all, Hl.out, show q = n by omega])
      go_wp2_with fail
      go_ret
      exact ⟨⟨_, rfl, by rw [← he.out]; exact HO.out⟩, hbel⟩
set_option maxRecDepth 100000 in
set_option maxHeartbeats 4000000 in
theorem people_back (A : Option Addr) (n c B : Nat) (l : List Pa) (w : World) (hr : Rd w B 4 A n (l.flatMap pa)) (hB : B ≤ w.heap.size) (hl : l.length = n) (hn : n ≤ 100) :
    Calls Try.prog 49 #[.slice A n c] w fun e w' => (∃ v, e = .returned v ∧ Own w' w.heap.size 68 4 pa v (all back l)) ∧ Below w.heap.size w w' := by
  have Hl := hide hl
  have HR := hide hr
  clear hl hr
  go_enter Try.func49, Try.ntmps49
  go_wp2_with (at_builtin; refine pushAll rfl _ _ 63 rfl Try.underlying63 People.info rfl (by omega) (by omega) rfl (Own.nil w w.heap.size 68 4 pa) l B A n c rfl Hl.out HR.out (by intro u hu; obtain ⟨z, _, hz⟩ := List.mem_flatMap.1 hu; simp at hz; rcases hz with rfl | rfl | rfl | rfl <;> rfl) (by simp) (by omega) (Nat.le_refl _) ?_; intro v w1 hown hb1; have hown2 : Own w1 w.heap.size 68 4 pa v (upto back l 0) := (by rw [upto_zero]; simpa using hown); obtain ⟨A1, c1, hv, hc1, -⟩ := hown2.shape; rw [upto_length, Hl.out] at hv hc1; subst hv; have HO0 := hide hown2; clear hown hown2)
  go_loopw [10] (fun i wr => ∃ q : Nat, q ≤ n ∧ i = .int .i64 q ∧ Own wr w.heap.size 68 4 pa (.slice A1 n c1) (upto back l q) ∧ Below w.heap.size w wr) (fun i _ => n - (intOf i).toNat)
  case atStart => exact ⟨0, Nat.zero_le _, rfl, HO0.out, hb1⟩
  case round =>
    clear HO0 hb1
    obtain ⟨q, hq, rfl, hown, hbel⟩ := hrel
    have HO := hide hown
    have hz := hbel.size
    clear hown
    by_cases hlt : q < n
    · have hu : (upto back l q).length = n := by rw [upto_length, Hl.out]
      obtain ⟨g, cap, hv, hgB, hgW, hcap, -, -⟩ := HO.out.at_ (by rw [hu]; omega)
      simp only [Value.slice.injEq] at hv
      obtain ⟨rfl, -, rfl⟩ := hv
      obtain ⟨x, hx⟩ : ∃ x, l[q]? = some x := ⟨_, List.getElem?_eq_getElem (by rw [Hl.out]; omega)⟩
      skip
      obtain ⟨⟨c0, c1', c2, c3⟩, f0, f1, f2, f3⟩ := HO.out.pa_at hu (upto_at hx)
      have HX := hide hx
      have hu2 := hide hu
      clear hu hx
      go_wp2_with fail
      refine letter2' (w := wr) (B := 0) (hs := Nat.zero_le _) (fun W => Own W w.heap.size 68 4 pa (.slice (some ⟨g, 0, none⟩) n c1) (upto back l q) ∧ W.cell? ⟨wr.heap.size, 2, none⟩ = some (.int .i64 x.fr) ∧ W.cell? ⟨wr.heap.size, 3, none⟩ = some (.int .i64 x.to))
        ⟨HO.out.alloc _, by simp [go_sem], by simp [go_sem]⟩ (show Below wr.heap.size wr _ from by go_grown) ?_
      clear c0 c1' c2 c3 f0 f1 f2 f3 HO
      rintro W ⟨hO, b2, b3⟩ hbW
      have hbB := hbel.trans (hbW.mono hz)
      obtain ⟨⟨c0, c1', c2, c3⟩, f0, f1, f2, f3⟩ := hO.pa_at hu2.out (upto_at HX.out)
      have i0 : (0 : Int) ≤ (q : Int) := by omega
      have i1 : (q : Int) < (n : Int) := by omega
      have hgne : g ≠ wr.heap.size := by omega
      skip
      have hst1 := hide (hO.storeF pa_len hu2.out (j := 2) (u := .int .i64 (x.to)) (upto_at (f := back) HX.out) (x' := { x with fr := x.to }) rfl (by omega))
      have hst2 := hide (hst1.out.1.storeF pa_len (by rw [List.length_set]; exact hu2.out) (j := 3) (u := .int .i64 (x.fr)) (z := q) (x := { x with fr := x.to }) (by rw [List.getElem?_set_self (by rw [hu2.out]; omega)]) (x' := { x with fr := x.to, to := x.fr }) rfl (by omega))
      have hnx := hide (show ((upto back l q).set q { x with fr := x.to }).set q { x with fr := x.to, to := x.fr } = upto back l (q + 1) by rw [List.set_set]; exact upto_next (f := back) HX.out)
      have s3 := (World.cell?_setCell_other W ⟨g, q * 4 + 2, none⟩ ⟨g, q * 4 + 3, none⟩ (.int .i64 (x.to)) (by simp)).trans c3
      clear hO
      go_region
      all_goals
        skip
        go_wp2_with fail
        go_roundw
        case rel => exact ⟨q + 1, by omega, by go_num, by rw [← hnx.out]; exact hst2.out.1, bdrew ((hbB.trans hst1.out.2).trans hst2.out.2)⟩
        case measure => simp [intOf]; omega
    · have he := hide (show upto back l q = all back l by rw [← upto_all, Hl.out, show q = n by omega])
      go_wp2_with fail
      go_ret
      exact ⟨⟨_, rfl, by rw [← he.out]; exact HO.out⟩, hbel⟩

theorem wsz {w W : World} {B : Nat} (h : Below B w W) : w.heap.size ≤ W.heap.size := h.size
set_option maxRecDepth 100000 in
set_option maxHeartbeats 4000000 in
theorem people_within (A : Option Addr) (n c B : Nat) (l : List Pa) (a b : Int) (w : World) (hr : Rd w B 4 A n (l.flatMap pa)) (hB : B ≤ w.heap.size) (hl : l.length = n) (hn : n ≤ 100) :
    Calls Try.prog 50 #[.slice A n c, .agg #[.int .i64 a, .int .i64 b]] w fun e w' => (∃ v, e = .returned v ∧ Own w' w.heap.size 68 4 pa v (all setId (inside a b l))) ∧ Below w.heap.size w w' := by
  have Hl := hide hl
  have HR := hide hr
  clear hl hr
  go_enter Try.func50, Try.ntmps50
  go_wp2_with fail
  go_loopw [5, 10] (fun o i wr => ∃ q : Nat, q ≤ n ∧ i = .int .i64 q ∧ Own wr (w.heap.size + 1) 68 4 pa o (inside a b (l.take q)) ∧ wr.cell? ⟨w.heap.size, 0, none⟩ = some (.int .i64 a) ∧ wr.cell? ⟨w.heap.size, 1, none⟩ = some (.int .i64 b) ∧ Below w.heap.size w wr ∧ w.heap.size + 1 ≤ wr.heap.size) (fun _ i _ => n - (intOf i).toNat)
  case atStart => exact ⟨0, Nat.zero_le _, rfl, Own.nil _ _ _ _ _, by simp [go_sem], by simp [go_sem], by go_grown, by simp⟩
  case round =>
    obtain ⟨q, hq, rfl, hown, k0, k1, hbel, hz⟩ := hrel
    have HO := hide hown
    clear hown
    by_cases hlt : q < n
    · obtain ⟨b1, off, x, rfl, hb1', hg, c0, c1, c2, c3⟩ := (HR.out.below (hbel.mono hB)).pa_at Hl.out hlt
      have hL : (inside a b (l.take q)).length ≤ 1000000000 := by have := inside_length a b (l.take q); rw [List.length_take] at this; omega
      have hsz := sizes (show w.heap.size < wr.heap.size by omega)
      have hna := hide (fun (h : a ≤ x.tick ∧ x.tick < b) => inside_yes hg h)
      have hnb := hide (fun (h : ¬ (a ≤ x.tick ∧ x.tick < b)) => inside_no hg h)
      have K0 := hide k0
      have K1 := hide k1
      clear hg
      rcases (show x.tick < a ∨ (a ≤ x.tick ∧ b ≤ x.tick) ∨ (a ≤ x.tick ∧ x.tick < b) by omega) with h | ⟨h, h'⟩ | ⟨h, h'⟩
      · have d1 : decide (a ≤ x.tick) = false := by simp; omega
        have hE := hide (hnb.out (by omega))
        go_wp2_with fail
        go_roundw
        case rel => exact ⟨q + 1, by omega, by go_num, by rw [hE.out]; exact HO.out.alloc _, hold1 ((Below.refl _ _).alloc (Nat.le_refl _) _) K0.out, hold1 ((Below.refl _ _).alloc (Nat.le_refl _) _) K1.out, hbel.alloc (by omega) _, by simp; omega⟩
        case measure => simp [intOf]; omega
      · have d1 : decide (a ≤ x.tick) = true := by simp; omega
        have d2 : decide (x.tick < b) = false := by simp; omega
        have hE := hide (hnb.out (by omega))
        go_wp2_with fail
        go_roundw
        case rel => exact ⟨q + 1, by omega, by go_num, by rw [hE.out]; exact HO.out.alloc _, hold1 ((Below.refl _ _).alloc (Nat.le_refl _) _) K0.out, hold1 ((Below.refl _ _).alloc (Nat.le_refl _) _) K1.out, hbel.alloc (by omega) _, by simp; omega⟩
        case measure => simp [intOf]; omega
      · have d1 : decide (a ≤ x.tick) = true := by simp; omega
        have d2 : decide (x.tick < b) = true := by simp; omega
        have hE := hide (hna.out ⟨h, h'⟩)
        go_wp2_with (at_builtin; refine push rfl _ _ 63 rfl Try.underlying63 People.info rfl (by omega) (by omega) rfl ((HO.out.alloc _).alloc _) x ⟨_, 0, none⟩ 1 rfl rfl (cells_new _ _ (pa x) _ (by simp)) (by intro u hu; simp at hu; rcases hu with rfl | rfl | rfl | rfl <;> rfl) hL (by go_size) ?_; intro v' w1 hown1 hb1)
        go_roundw
        case rel =>
          have hb0 : Below (w.heap.size + 1) wr w1 := (((Below.refl _ _).alloc (by omega) _).alloc (by simp; omega) _).trans hb1
          exact ⟨q + 1, by omega, by go_num, by rw [hE.out]; exact hown1, (hb0.cell (p := ⟨w.heap.size, 0, none⟩) (show w.heap.size < _ by omega)).trans K0.out, (hb0.cell (p := ⟨w.heap.size, 1, none⟩) (show w.heap.size < _ by omega)).trans K1.out, hbel.trans (hb0.mono (by omega)), by have := hb0.size; omega⟩
        case measure => simp [intOf]; omega
    · have he := hide (show l.take q = l from List.take_of_length_le (by rw [Hl.out]; omega))
      rw [he.out] at HO
      have hil : (inside a b l).length ≤ 100 := by have := inside_length a b l; rw [Hl.out] at this; omega
      obtain ⟨A3, c3, ho, -, -⟩ := HO.out.shape
      subst ho
      go_wp2_with (go_at_call 61; refine (people_number _ _ _ _ HO.out hil).mono ?_; rintro e w2 ⟨⟨rfl, hown2⟩, hb2⟩)
      go_ret
      exact ⟨⟨_, rfl, hown2.small (by omega)⟩, hbel.trans (hb2.mono (by omega))⟩
end Go.Proofs.Ytkgkilogjodccaa
