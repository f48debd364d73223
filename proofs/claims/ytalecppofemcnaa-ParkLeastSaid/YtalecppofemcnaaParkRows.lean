/-
  Rows of slices of the call's own, and the two tables of package park.
-/
import Derived.Test.YtalecppofemcnaaZoneRef
import Derived.Test.YtalecppofemcnaaParkPlain
import Derived.Test.YtalecppofemcnaaOwnF
namespace Go.Proofs.Ytalecppofemcnaa
open Go.RowKit HB ParkP
set_option linter.unusedVariables false
set_option linter.unusedSimpArgs false
theorem Park.info2 : (Try.prog.info? 26).map (fun i => (i.zero, i.size, i.bytes)) = some (some (.slice none 0 0), 1, 24) := by kernel_rfl
abbrev one1 : Value → List Value := fun v => [v]
theorem one1_len (v : Value) : (one1 v).length = 1 := rfl
def vt (n : Nat) (h : Nat → Value) : List Value := (List.range n).map h
theorem vt_length (n : Nat) (h : Nat → Value) : (vt n h).length = n := by simp [vt]
theorem vt_get {n : Nat} {h : Nat → Value} {v : Nat} (hv : v < n) : (vt n h)[v]? = some (h v) := by simp [vt, hv]
theorem vt_set (n : Nat) (h : Nat → Value) (v : Nat) (x : Value) : (vt n h).set v x = vt n (fun u => if u = v then x else h u) := by
  apply List.ext_getElem?
  intro i
  rw [List.getElem?_set, vt_length]
  by_cases hi : v = i
  · subst hi
    by_cases hq : v < n <;> simp [vt, hq]
  · rw [if_neg hi]
    by_cases hn : i < n
    · simp [vt, hn, Ne.symm hi]
    · simp [vt, hn]
theorem vt_congr {n : Nat} {f g : Nat → Value} (h : ∀ v, v < n → f v = g v) : vt n f = vt n g := by
  unfold vt
  apply List.map_congr_left
  intro v hv
  exact h v (List.mem_range.1 hv)
/-- a row of n values, the call's own, at block g -/
def VRow (w : World) (B g n : Nat) (h : Nat → Value) : Prop := Own w B 26 1 one1 (.slice (some ⟨g, 0, none⟩) n n) (vt n h) ∧ B ≤ g ∧ g < w.heap.size
theorem VRow.cell {w : World} {B g n : Nat} {h : Nat → Value} (hr : VRow w B g n h) {v : Nat} (hv : v < n) : w.cell? ⟨g, v, none⟩ = some (h v) ∧ w.frozen? ⟨g, v, none⟩ = false := by
  have := hr.1.elem_cell one1_len (vt_length _ _) (z := v) (j := 0) (vt_get hv) (by omega) rfl
  simpa using this
theorem VRow.store {w : World} {B g n : Nat} {h : Nat → Value} (hr : VRow w B g n h) {v : Nat} (hv : v < n) (x : Value) : VRow (w.setCell ⟨g, v, none⟩ x) B g n (fun u => if u = v then x else h u) := by
  have h1 := (hr.1.storeF one1_len (vt_length _ _) (z := v) (j := 0) (u := x) (vt_get hv) (x' := x) rfl (by omega)).1
  rw [vt_set, Nat.mul_one, Nat.add_zero] at h1
  exact ⟨h1, hr.2.1, by simp; exact hr.2.2⟩
theorem VRow.far {w : World} {B g n : Nat} {h : Nat → Value} (hr : VRow w B g n h) {p : Addr} (hp : g ≠ p.block) (u : Value) : VRow (w.setCell p u) B g n h :=
  ⟨ownsRow_setCell_other hr.1 (by simpa [Value.ownBlock] using hp) u, hr.2.1, by simp; exact hr.2.2⟩
theorem VRow.alloc {w : World} {B g n : Nat} {h : Nat → Value} (hr : VRow w B g n h) (o : Obj) : VRow (w.alloc o) B g n h :=
  ⟨hr.1.alloc o, hr.2.1, by simp; have := hr.2.2; omega⟩
theorem VRow.congr {w : World} {B g n : Nat} {h h' : Nat → Value} (hr : VRow w B g n h) (he : ∀ v, v < n → h v = h' v) : VRow w B g n h' := by
  unfold VRow at hr ⊢
  rw [← vt_congr he]; exact hr
theorem VRow.below {w w' : World} {B g n X : Nat} {h : Nat → Value} (hr : VRow w B g n h) (hb : Below X w w') (hX : g < X) : VRow w' B g n h := by
  refine ⟨?_, hr.2.1, Nat.lt_of_lt_of_le hr.2.2 hb.size⟩
  have h1 := hr.1
  rcases h1 with ⟨hlen, h2⟩
  refine ⟨hlen, ?_⟩
  rcases h2 with h2 | ⟨g', cap, cur, hv, hB, hg, rest⟩
  · exact .inl h2
  · injection hv with e1 e2 e3
    injection e1 with e1
    injection e1 with e1
    subst e1
    exact .inr ⟨g, cap, cur, by rw [← e3, ← e2], hB, (hb.block g hX).trans hg, rest⟩
theorem Zone.Row.below {w w' : World} {B g n X : Nat} {f : Nat → Int} (hr : Zone.Row w B g n f) (hb : Below X w w') (hX : g < X) : Zone.Row w' B g n f := by
  refine ⟨?_, hr.2.1, Nat.lt_of_lt_of_le hr.2.2 hb.size⟩
  have h1 := hr.1
  rcases h1 with ⟨hlen, h2⟩
  refine ⟨hlen, ?_⟩
  rcases h2 with h2 | ⟨g', cap, cur, hv, hB, hg, rest⟩
  · exact .inl h2
  · injection hv with e1 e2 e3
    injection e1 with e1
    injection e1 with e1
    subst e1
    exact .inr ⟨g, cap, cur, by rw [← e3, ← e2], hB, (hb.block g hX).trans hg, rest⟩
theorem VRow.new (w : World) (B n : Nat) (hB : B ≤ w.heap.size) (hn : n ≤ 1000) : VRow (w.alloc (.cells (madeCells #[.slice none 0 0] n) 26)) B w.heap.size n (fun _ => .slice none 0 0) := by
  have h := Own.block (base := B) (f := one1) (sz := 1) w 26 (madeCells #[.slice none 0 0] n) (vt n (fun _ => .slice none 0 0)) hB (by
    apply List.ext_getElem?
    intro i
    have e : (vt n (fun _ => Value.slice none 0 0)).flatMap one1 = vt n (fun _ => Value.slice none 0 0) := by
      generalize vt n (fun _ => Value.slice none 0 0) = L
      induction L with
      | nil => rfl
      | cons a L ih => rw [List.flatMap_cons, ih]; rfl
    rw [e]
    by_cases hi : i < n
    · simp [madeCells, vt, hi, Nat.mod_one]
    · simp [madeCells, vt, hi]) one1_len (by rw [vt_length]; omega)
  rw [vt_length] at h
  exact ⟨h, hB, by simp⟩
/-- a row's header -/
abbrev hd (n g : Nat) : Value := .slice (some ⟨g, 0, none⟩) (n + 1) (n + 1)
/-- the two tables: headers of the first D, rows of the first C known -/
def TB (l : List Int) (W : World) (B H0 gc gl K n D C : Nat) (rc rl : Nat → Nat) : Prop :=
  (VRow W B gc (K + 1) (fun c => if c < D then hd n (rc c) else .slice none 0 0) ∧ VRow W B gl (K + 1) (fun c => if c < D then hd n (rl c) else .slice none 0 0)) ∧ gc ≠ gl ∧ gc < H0 ∧ gl < H0 ∧
  ∀ c, c < C → (H0 ≤ rc c ∧ Zone.Row W B (rc c) n (tc l c)) ∧ (H0 ≤ rl c ∧ Zone.Row W B (rl c) n (fun v => (tl l c v : Int)))
theorem TB.below {l : List Int} {W W' : World} {B H0 gc gl K n D C X : Nat} {rc rl : Nat → Nat} (h : TB l W B H0 gc gl K n D C rc rl) (hb : Below X W W') (hX : H0 ≤ X) (hr : ∀ c, c < C → rc c < X ∧ rl c < X) : TB l W' B H0 gc gl K n D C rc rl := by
  obtain ⟨⟨h1, h2⟩, h3, h4, h5, h6⟩ := h
  exact ⟨⟨h1.below hb (by omega), h2.below hb (by omega)⟩, h3, h4, h5, fun c hc => ⟨⟨(h6 c hc).1.1, (h6 c hc).1.2.below hb (hr c hc).1⟩, ⟨(h6 c hc).2.1, (h6 c hc).2.2.below hb (hr c hc).2⟩⟩⟩
theorem TB.lt {l : List Int} {W : World} {B H0 gc gl K n D C : Nat} {rc rl : Nat → Nat} (h : TB l W B H0 gc gl K n D C rc rl) : ∀ c, c < C → rc c < W.heap.size ∧ rl c < W.heap.size :=
  fun c hc => ⟨(h.2.2.2.2 c hc).1.2.2.2, (h.2.2.2.2 c hc).2.2.2.2⟩
end Go.Proofs.Ytalecppofemcnaa
