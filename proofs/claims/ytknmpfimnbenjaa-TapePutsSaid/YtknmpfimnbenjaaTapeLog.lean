/-
  Logs in memory: trips, legs; the document's numbers with signs (hoistwayref37.ints).
-/
import Derived.Test.YtknmpfimnbenjaaTapeStp
import Derived.Test.YtknmpfimnbenjaaTapePlain
namespace Go.Proofs.Ytknmpfimnbenjaa
open Go.RowKit HB PackP TapeP
set_option linter.unusedVariables false
set_option linter.unusedSimpArgs false
abbrev tc (t : Tp) : List Value := [.int .i64 t.a, .int .i64 t.b, .int .i64 t.c, .int .i64 t.d, .int .i64 t.e, .int .i64 t.f, .int .i64 t.g]
abbrev lc (g : Lg) : List Value := [.int .i64 g.t, .int .i64 g.p, .int .i64 g.d, .bool g.o]
structure RowL where
  A : Option Addr
  n : Nat
  c : Nat
  l : List Lg
instance : Inhabited RowL := ⟨⟨none, 0, 0, []⟩⟩
abbrev RowL.v (r : RowL) : Value := .slice r.A r.n r.c
abbrev rc (r : RowL) : List Value := [r.v]
/-- trips at a slice -/
def Trs (w : World) (B : Nat) (A : Option Addr) (n : Nat) (ts : List Tp) : Prop := Rd w B 7 A n (ts.flatMap tc) ∧ ts.length = n
/-- rows of legs at a slice of slices -/
def Lgs (w : World) (B : Nat) (A : Option Addr) (n : Nat) (ls : List (List Lg)) : Prop :=
  ∃ R : List RowL, Rd w B 1 A n (R.flatMap rc) ∧ R.length = n ∧ (∀ r ∈ R, Rd w B 4 r.A r.n (r.l.flatMap lc) ∧ r.l.length = r.n ∧ r.n ≤ r.c) ∧ ls = R.map RowL.l
section
variable {w w' : World} {B B' n : Nat} {A : Option Addr} {ts : List Tp} {ls : List (List Lg)}
theorem Trs.below (h : Trs w B A n ts) (hb : Below B w w') : Trs w' B A n ts := ⟨h.1.below hb, h.2⟩
theorem Trs.mono (h : Trs w B A n ts) (hB : B ≤ B') : Trs w B' A n ts := ⟨h.1.mono hB, h.2⟩
theorem Trs.nil (w : World) (B : Nat) (A : Option Addr) : Trs w B A 0 [] := ⟨Rd.nil, rfl⟩
theorem Lgs.below (h : Lgs w B A n ls) (hb : Below B w w') : Lgs w' B A n ls := by
  obtain ⟨R, h1, h2, h3, h4⟩ := h
  exact ⟨R, h1.below hb, h2, fun r hr => ⟨(h3 r hr).1.below hb, (h3 r hr).2⟩, h4⟩
theorem Lgs.mono (h : Lgs w B A n ls) (hB : B ≤ B') : Lgs w B' A n ls := by
  obtain ⟨R, h1, h2, h3, h4⟩ := h
  exact ⟨R, h1.mono hB, h2, fun r hr => ⟨(h3 r hr).1.mono hB, (h3 r hr).2⟩, h4⟩
theorem Lgs.nil (w : World) (B : Nat) (A : Option Addr) : Lgs w B A 0 [] := ⟨[], Rd.nil, rfl, fun r hr => by simp at hr, rfl⟩
theorem Lgs.len (h : Lgs w B A n ls) : ls.length = n := by obtain ⟨R, h1, h2, h3, rfl⟩ := h; simpa using h2
/-- a trip's seven cells -/
theorem Trs.at_ (h : Trs w B A n ts) {i : Nat} (hi : i < n) :
    ∃ b off t, A = some ⟨b, off, none⟩ ∧ b < B ∧ ts[i]? = some t ∧ w.cell? ⟨b, off + i * 7, none⟩ = some (.int .i64 t.a) ∧ w.cell? ⟨b, off + i * 7 + 1, none⟩ = some (.int .i64 t.b) ∧ w.cell? ⟨b, off + i * 7 + 2, none⟩ = some (.int .i64 t.c)
      ∧ w.cell? ⟨b, off + i * 7 + 3, none⟩ = some (.int .i64 t.d) ∧ w.cell? ⟨b, off + i * 7 + 4, none⟩ = some (.int .i64 t.e) ∧ w.cell? ⟨b, off + i * 7 + 5, none⟩ = some (.int .i64 t.f) ∧ w.cell? ⟨b, off + i * 7 + 6, none⟩ = some (.int .i64 t.g) := by
  obtain ⟨b, off, hA, hb, hc⟩ := h.1.at_ (by omega)
  have hg : ts[i]? = some (ts[i]'(by rw [h.2]; exact hi)) := List.getElem?_eq_getElem _
  generalize ts[i]'(by rw [h.2]; exact hi) = t at hg
  have hf : ∀ x, (tc x).length = 7 := fun _ => rfl
  have g := fun j (hj : j < 7) => flat_get hf ts i j t hg hj
  have h0 := hc (i * 7 + 0) _ ((g 0 (by omega)).trans rfl)
  exact ⟨b, off, t, hA, hb, hg, h0, (Nat.add_assoc off (i * 7) 1).symm ▸ hc (i * 7 + 1) _ ((g 1 (by omega)).trans rfl), (Nat.add_assoc off (i * 7) 2).symm ▸ hc (i * 7 + 2) _ ((g 2 (by omega)).trans rfl), (Nat.add_assoc off (i * 7) 3).symm ▸ hc (i * 7 + 3) _ ((g 3 (by omega)).trans rfl), (Nat.add_assoc off (i * 7) 4).symm ▸ hc (i * 7 + 4) _ ((g 4 (by omega)).trans rfl), (Nat.add_assoc off (i * 7) 5).symm ▸ hc (i * 7 + 5) _ ((g 5 (by omega)).trans rfl), (Nat.add_assoc off (i * 7) 6).symm ▸ hc (i * 7 + 6) _ ((g 6 (by omega)).trans rfl)⟩
/-- a leg's four cells -/
theorem legs_at {l : List Lg} (h : Rd w B 4 A n (l.flatMap lc)) (hl : l.length = n) {i : Nat} (hi : i < n) :
    ∃ b off t, A = some ⟨b, off, none⟩ ∧ b < B ∧ l[i]? = some t ∧ w.cell? ⟨b, off + i * 4, none⟩ = some (.int .i64 t.t) ∧ w.cell? ⟨b, off + i * 4 + 1, none⟩ = some (.int .i64 t.p) ∧ w.cell? ⟨b, off + i * 4 + 2, none⟩ = some (.int .i64 t.d)
      ∧ w.cell? ⟨b, off + i * 4 + 3, none⟩ = some (.bool t.o) := by
  obtain ⟨b, off, hA, hb, hc⟩ := h.at_ (by omega)
  have hg : l[i]? = some (l[i]'(by rw [hl]; exact hi)) := List.getElem?_eq_getElem _
  generalize l[i]'(by rw [hl]; exact hi) = t at hg
  have hf : ∀ x, (lc x).length = 4 := fun _ => rfl
  have g := fun j (hj : j < 4) => flat_get hf l i j t hg hj
  have h0 := hc (i * 4 + 0) _ ((g 0 (by omega)).trans rfl)
  exact ⟨b, off, t, hA, hb, hg, h0, (Nat.add_assoc off (i * 4) 1).symm ▸ hc (i * 4 + 1) _ ((g 1 (by omega)).trans rfl), (Nat.add_assoc off (i * 4) 2).symm ▸ hc (i * 4 + 2) _ ((g 2 (by omega)).trans rfl), (Nat.add_assoc off (i * 4) 3).symm ▸ hc (i * 4 + 3) _ ((g 3 (by omega)).trans rfl)⟩
/-- a row's slice value -/
theorem Lgs.at_ (h : Lgs w B A n ls) {i : Nat} (hi : i < n) :
    ∃ b off A' n' c' l, A = some ⟨b, off, none⟩ ∧ b < B ∧ ls[i]? = some l ∧ w.cell? ⟨b, off + i, none⟩ = some (.slice A' n' c') ∧ Rd w B 4 A' n' (l.flatMap lc) ∧ l.length = n' ∧ n' ≤ c' := by
  obtain ⟨R, h1, h2, h3, rfl⟩ := h
  obtain ⟨b, off, hA, hb, hc⟩ := h1.at_ (by omega)
  have hg : R[i]? = some (R[i]'(by rw [h2]; exact hi)) := List.getElem?_eq_getElem _
  generalize R[i]'(by rw [h2]; exact hi) = r at hg
  have := h3 r (List.mem_of_getElem? hg)
  have hf : ∀ x, (rc x).length = 1 := fun _ => rfl
  have h0 := hc (i * 1 + 0) _ ((flat_get hf R i 0 r hg (by omega)).trans rfl)
  rw [show off + (i * 1 + 0) = off + i by omega] at h0
  exact ⟨b, off, r.A, r.n, r.c, r.l, hA, hb, by simp [hg], h0, this.1, this.2.1, this.2.2⟩
end
theorem e1_take {l : List Int} {k : Nat} {x : Int} (h : l[k]? = some x) : e1 (l.take (k + 1)) = e1 (l.take k) ++ put (fold x) := by
  rw [List.take_add_one, h]; simp [e1]
theorem put_le {n : Nat} (h : n < 18446744073709551616) : (put n).length ≤ 10 := put_ten h
theorem e1_len : ∀ (l : List Int), (∀ x ∈ l, I64 x) → (e1 l).length ≤ 10 * l.length
  | [], _ => by simp [e1]
  | x :: l, h => by
    have h1 := e1_len l (fun y hy => h y (List.mem_cons_of_mem _ hy))
    have h2 := put_le (fold_lt (h x List.mem_cons_self).1 (h x List.mem_cons_self).2)
    have e : e1 (x :: l) = put (fold x) ++ e1 l := by simp [e1]
    rw [e, List.length_append, List.length_cons]; omega
set_option maxRecDepth 100000 in
set_option maxHeartbeats 2000000 in
theorem ref_ints (A : Option Addr) (n c B : Nat) (l : List Int) (w : World) (hr : Rd w B 1 A n (l.map (Value.int .i64))) (hB : B ≤ w.heap.size) (hl : l.length = n) (hn : n ≤ 1000) (hok : ∀ x ∈ l, I64 x) :
    Calls Try.prog 56 #[.slice A n c] w fun e w' => (∃ v, e = .returned v ∧ OwnB w' w.heap.size v (e1 l)) ∧ Below w.heap.size w w' := by
  have Hl := hide hl
  have HR := hide hr
  have HOK := hide hok
  clear hl hr hok
  go_enter Try.func56, Try.ntmps56
  go_wp2_with fail
  go_loopw [3, 4] (fun o i wr => ∃ k : Nat, k ≤ n ∧ i = .int .i64 k ∧ OwnB wr w.heap.size o (e1 (l.take k)) ∧ Below w.heap.size w wr) (fun _ i _ => n - (intOf i).toNat)
  case atStart => exact ⟨0, Nat.zero_le _, rfl, Own.nil _ _ _ _ _, Below.refl _ _⟩
  case round =>
    obtain ⟨k, hk, rfl, hown, hb0⟩ := hrel
    have HO := hide hown
    have HB0 := hide hb0
    have hz0 := hb0.size
    clear hown hb0
    by_cases hlt : k < n
    · obtain ⟨b, off, x, rfl, hb, hx, c0⟩ := (HR.out.below (HB0.out.mono hB)).int_at Hl.out hlt
      have hx2 := HOK.out x (List.mem_of_getElem? hx)
      have HF := hide (fun W => ref_fold x W hx2.1 hx2.2)
      have HP := hide (fun W => ref_put (fold x) (fold_lt hx2.1 hx2.2) W)
      have HX := hide hx
      have HL := hide (put_le (fold_lt hx2.1 hx2.2))
      have HE := hide (show (e1 (l.take k)).length ≤ 10 * 1000 from by
        have := e1_len (l.take k) (fun y hy => HOK.out y (List.mem_of_mem_take hy))
        rw [List.length_take] at this; omega)
      have i0 : (0 : Int) ≤ (k : Int) := by omega
      have i1 : (k : Int) < (n : Int) := by omega
      clear hx hx2
      go_wp2_with (first | (go_at_call 11; refine (HF.out _).mono ?_; rintro e w1 ⟨rfl, rfl⟩) | (go_at_call 12; refine (HP.out _).mono ?_; rintro e w1 ⟨⟨v, rfl, hown1⟩, hb1⟩; obtain ⟨A', c', rfl, hc', hr'⟩ := hown1.ints; have hz1 := hb1.size) | (at_builtin; refine pushAll rfl _ _ 22 rfl Try.underlying22 Byte.info rfl (by omega) (by omega) rfl (HO.out.below hb1) (put (fold x)) w1.heap.size A' _ c' rfl rfl (by rw [map_flat]; exact hr') (by rw [map_flat]; intro u hu; obtain ⟨z, _, rfl⟩ := List.mem_map.1 hu; rfl) (by have := HE.out; omega) (by have := HL.out; omega) (Nat.le_trans hz0 hz1) ?_; intro v2 w2 hown2 hb2))
      go_roundw
      case rel => exact ⟨k + 1, by omega, by go_num, by rw [e1_take HX.out]; exact hown2, (HB0.out.trans (hb1.mono hz0)).trans hb2⟩
      case measure => simp [intOf]; omega
    · obtain rfl : k = n := by omega
      have he : l.take k = l := List.take_of_length_le (by rw [Hl.out]; exact Nat.le_refl _)
      go_wp2_with fail
      go_ret
      refine ⟨⟨_, rfl, ?_⟩, HB0.out⟩
      have := HO.out; rw [he] at this; exact this
end Go.Proofs.Ytknmpfimnbenjaa
