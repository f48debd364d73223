/-
  The walk of shuffle.Back.
-/
import Derived.Test.YtalecppofemcnaaProg
import Derived.Test.YtalecppofemcnaaOwn
import Derived.Deep.OwnRows
namespace Go.Proofs.Ytalecppofemcnaa
open Go.RowKit HB
set_option linter.unusedVariables false
set_option linter.unusedSimpArgs false
namespace BackP
/-- where a number stands last among the first k; below 0: it doesn't -/
def pos (l : List Int) (v : Int) : Nat → Int
  | 0 => -1
  | k + 1 => if l[k]? = some v then k else pos l v k
theorem pos_lo (l : List Int) (v : Int) : ∀ k, -1 ≤ pos l v k ∧ pos l v k < k
  | 0 => by simp [pos]
  | k + 1 => by simp only [pos]; have := pos_lo l v k; split <;> omega
def bk (l : List Int) (n k : Nat) : List Int := (List.range n).map fun (v : Nat) => pos l (v : Int) k
theorem bk_length (l : List Int) (n k : Nat) : (bk l n k).length = n := by simp [bk]
theorem bk_get {l : List Int} {n k q : Nat} {z : Int} (h : (bk l n k)[q]? = some z) : z = pos l q k := by
  have hq : q < n := by have := (List.getElem?_eq_some_iff.1 h).1; rwa [bk_length] at this
  simp [bk, hq] at h
  exact h.symm
theorem bk_next {l : List Int} {n k q : Nat} (hx : l[k]? = some (q : Int)) : (bk l n k).set q k = bk l n (k + 1) := by
  apply List.ext_getElem?
  intro i
  rw [List.getElem?_set, bk_length]
  by_cases hi : q = i
  · subst hi
    by_cases hq : q < n
    · simp [bk, hq, pos, hx]
    · simp [bk, hq]
  · rw [if_neg hi]
    by_cases hn : i < n
    · have : l[k]? ≠ some (i : Int) := by rw [hx]; intro h; injection h with h; omega
      simp [bk, hn, pos, this]
    · simp [bk, hn]
def fill (n i : Nat) : List Int := (List.range n).map fun v => if v < i then -1 else 0
theorem fill_length (n i : Nat) : (fill n i).length = n := by simp [fill]
theorem fill_zero (n : Nat) : fill n 0 = List.replicate n 0 := by
  apply List.ext_getElem?
  intro i
  by_cases hi : i < n <;> simp [fill, hi]
theorem fill_next (n i : Nat) : (fill n i).set i (-1) = fill n (i + 1) := by
  apply List.ext_getElem?
  intro j
  rw [List.getElem?_set, fill_length]
  by_cases hi : i = j
  · subst hi
    by_cases hq : i < n <;> simp [fill, hq]
  · rw [if_neg hi]
    by_cases hn : j < n
    · have : (j < i + 1) = (j < i) := by apply propext; omega
      simp [fill, hn, this]
    · simp [fill, hn]
theorem fill_end (l : List Int) (n : Nat) : fill n n = bk l n 0 := by
  unfold fill bk
  apply List.map_congr_left
  intro v hv
  rw [if_pos (List.mem_range.1 hv)]; rfl
/-- the first k are places, none twice -/
def Apart (l : List Int) (n k : Nat) : Prop := ∀ (j : Nat) (x : Int), j < k → l[j]? = some x → 0 ≤ x ∧ x < n ∧ pos l x j = -1
theorem Apart.next {l : List Int} {n k : Nat} {x : Int} (h : Apart l n k) (hx : l[k]? = some x) (h1 : 0 ≤ x ∧ x < n ∧ pos l x k = -1) : Apart l n (k + 1) := by
  intro j y hj hy
  rcases Nat.lt_or_ge j k with hlt | hge
  · exact h j y hlt hy
  · obtain rfl : j = k := by omega
    rw [hx] at hy; obtain rfl := Option.some.inj hy
    exact h1
end BackP
open BackP
theorem Back.info : (Try.prog.info? 3).map (fun i => (i.zero, i.size, i.bytes)) = some (some (.int .i64 0), 1, 8) := by kernel_rfl
def Back.Post (l : List Int) (n : Nat) (w : World) (e : Ending) (w' : World) : Prop :=
  Below w.heap.size w w' ∧ ((¬ Apart l n n ∧ e = .returned (.tuple #[.slice none 0 0, .bool false])) ∨
  (Apart l n n ∧ ∃ v, e = .returned (.tuple #[v, .bool true]) ∧ Own w' w.heap.size 3 1 (num .i64) v (bk l n n)))
set_option maxRecDepth 100000 in
set_option maxHeartbeats 2000000 in
theorem shuffle_back (A : Option Addr) (n c B : Nat) (l : List Int) (w : World) (hr : Rd w B 1 A n (l.map (Value.int .i64))) (hB : B ≤ w.heap.size) (hl : l.length = n) (hn : n ≤ 300) :
    Calls Try.prog 20 #[.slice A n c] w (Back.Post l n w) := by
  have hmk := fun (W : World) => run_make_row' (P := Try.prog) 26 3 (.int .i64 0) 8 Try.underlying26 Back.info rfl .i64 .i64 n (by omega) (by omega) W
  have Hl := hide hl
  have hown0 := Own.made (base := w.heap.size) (k := .i64) w 3 n (Nat.le_refl _) (by omega)
  rw [← fill_zero n] at hown0
  have Ho := hide hown0
  clear hl hown0
  go_enter Try.func20, Try.ntmps20
  go_wp2_with fail
  clear hmk
  go_loopw [13] (fun i wr => ∃ k : Nat, k ≤ n ∧ i = .int .i64 k ∧ Own wr w.heap.size 3 1 (num .i64) (.slice (some ⟨w.heap.size, 0, none⟩) n n) (fill n k) ∧ Below w.heap.size w wr ∧ w.heap.size < wr.heap.size) (fun i _ => n - (intOf i).toNat)
  case atStart => exact ⟨0, Nat.zero_le _, rfl, Ho.out, by go_grown, by simp⟩
  case round =>
    clear Ho
    obtain ⟨k, hk, rfl, hown, hbel, hsz⟩ := hrel
    by_cases hlt : k < n
    · obtain ⟨y, hy, cy, fy⟩ := hown.int_at (fill_length _ _) (j := k) hlt
      have hst := hide (hown.store (fill_length _ _) k (-1))
      have hnx := hide (fill_next n k)
      clear hy hown hr
      go_wp2_with fail
      go_roundw
      case rel => exact ⟨k + 1, by omega, by go_num, by rw [← hnx.out]; exact hst.out.1, hbel.trans hst.out.2, by go_size⟩
      case measure => simp [intOf]; omega
    · obtain rfl : k = n := by omega
      rw [fill_end l] at hown
      have HO0 := hide hown
      clear hown
      go_wp2_with fail
      go_loopw [22] (fun i wr => ∃ q : Nat, q ≤ k ∧ i = .int .i64 q ∧ Apart l k q ∧ Own wr w.heap.size 3 1 (num .i64) (.slice (some ⟨w.heap.size, 0, none⟩) k k) (bk l k q) ∧ Below w.heap.size w wr ∧ w.heap.size < wr.heap.size) (fun i _ => k - (intOf i).toNat)
      case atStart => exact ⟨0, Nat.zero_le _, rfl, fun j x hj => by omega, HO0.out, hbel, hsz⟩
      case round =>
        clear HO0 hbel hsz
        obtain ⟨q, hq, rfl, hgood, hown, hbel, hsz⟩ := hrel
        have HG := hide hgood
        have HO := hide hown
        clear hgood hown
        by_cases hlt2 : q < k
        · obtain ⟨b, off, x, rfl, hb, hg, c0⟩ := (hr.below (hbel.mono hB)).int_at Hl.out hlt2
          have Hg := hide hg
          have hno : ∀ (h : ¬ (0 ≤ x ∧ x < (k : Int) ∧ pos l x q = -1)), ¬ Apart l k k := fun h hG => h (hG q x hlt2 hg)
          have Hno := hide hno
          clear hno hg hr
          rcases (show x < 0 ∨ (0 ≤ x ∧ (k : Int) ≤ x) ∨ (0 ≤ x ∧ x < (k : Int)) by omega) with h | ⟨h, h'⟩ | ⟨h, h'⟩
          · go_wp2_with fail
            go_ret2
            exact ⟨hbel, .inl ⟨Hno.out (by omega), rfl⟩⟩
          · go_wp2_with fail
            go_ret2
            exact ⟨hbel, .inl ⟨Hno.out (by omega), rfl⟩⟩
          · obtain ⟨p, rfl⟩ := Int.eq_ofNat_of_zero_le h
            obtain ⟨z, hz, cz, fz⟩ := HO.out.int_at (bk_length _ _ _) (j := p) (by omega)
            have hzp := bk_get hz
            have hlo := pos_lo l (p : Int) q
            rw [← hzp] at hlo
            have HZ := hide hzp
            clear hz hzp
            by_cases hz0 : 0 ≤ z
            · have hng := hide (Hno.out (by rw [← HZ.out]; omega))
              clear hlo
              go_wp2_with fail
              go_ret2
              exact ⟨hbel, .inl ⟨hng.out, rfl⟩⟩
            · have hst := hide (HO.out.store (bk_length _ _ _) p (q : Int))
              have hnx := hide (bk_next (n := k) Hg.out)
              have hgn := hide (HG.out.next Hg.out (by rw [← HZ.out]; omega))
              clear hlo
              go_wp2_with fail
              go_roundw
              case rel => exact ⟨q + 1, by omega, by go_num, hgn.out, by rw [← hnx.out]; exact hst.out.1, hbel.trans hst.out.2, by go_size⟩
              case measure => simp [intOf]; omega
        · obtain rfl : q = k := by omega
          go_wp2_with fail
          go_ret2
          exact ⟨hbel, .inr ⟨HG.out, _, rfl, HO.out⟩⟩
end Go.Proofs.Ytalecppofemcnaa
