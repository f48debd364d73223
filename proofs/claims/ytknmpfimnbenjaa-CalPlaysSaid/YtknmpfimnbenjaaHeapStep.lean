/-
  The walk of the law's step (chapter 06): a call of the heap and of the row in order.
-/
import Derived.Test.YtknmpfimnbenjaaHeapUntil
import Derived.Deep.DeepCutAuto
namespace Go.Proofs.Ytknmpfimnbenjaa
open Go.RowKit HB HeapP
set_option linter.unusedVariables false
set_option linter.unusedSimpArgs false
namespace HB
/-- a row of entries that lies in neither of the heap's blocks -/
def RdX (w : World) (p g : Nat) (A : Option Addr) (n : Nat) (l : List En) : Prop := Rd w w.heap.size 3 A n (l.flatMap ent) ∧ (0 < n → ∀ a, A = some a → a.block ≠ p ∧ a.block ≠ g)
section
variable {w w' : World} {p g g' n : Nat} {A : Option Addr} {l : List En}
theorem RdX.only (h : RdX w p g A n l) (ho : Only p g w w') (hg : g' = g ∨ w.heap.size ≤ g') : RdX w' p g' A n l := by
  obtain ⟨⟨h1, h2⟩, h3⟩ := h
  refine ⟨⟨h1, fun hn => ?_⟩, fun hn a ha => ?_⟩
  · obtain ⟨b, off, rfl, hb, hc⟩ := h2 hn
    have := h3 hn _ rfl
    exact ⟨b, off, rfl, Nat.lt_of_lt_of_le hb ho.size, fun j u hu => ho.cell (a := ⟨b, off + j, none⟩) (hc j u hu) this.1 this.2⟩
  · obtain ⟨b, off, hA, hb, hc⟩ := h2 hn
    have := h3 hn _ ha
    refine ⟨this.1, ?_⟩
    rw [hA] at ha
    injection ha with ha
    subst ha
    rcases hg with rfl | hg
    · exact this.2
    · simp only; omega
theorem RdX.fresh {base c : Nat} {e : TypeId} (h : Own w base e 3 ent (.slice A l.length c) l) (hp : p < base) (hg : g < base) : RdX w p g A l.length l := by
  refine ⟨Rd.own h.row, fun hn a ha => ?_⟩
  subst ha
  obtain ⟨b, cap, hv, hb, _⟩ := h.at_ hn
  simp only [Value.slice.injEq, Option.some.injEq] at hv
  obtain ⟨rfl, _⟩ := hv
  simp only
  omega
theorem RdX.cut (h : RdX w p g A n l) {k cap : Nat} (hk : k ≤ n) (hc : n ≤ cap) : RdX w p g (if cap = k then A else A.map (·.add (k * 3))) (n - k) (l.drop k) := by
  refine ⟨by have := h.1.cut hk hc; rwa [flat_drop ent_len] at this, fun hn a ha => ?_⟩
  have h2 : 0 < n := by omega
  rw [if_neg (by omega)] at ha
  cases A with
  | none => cases ha
  | some ad =>
    simp only [Option.map_some, Option.some.injEq] at ha
    subst ha
    have := h.2 h2 _ rfl
    have hb : (ad.add (k * 3)).block = ad.block := by unfold Addr.add; split <;> rfl
    rw [hb]; exact this
end
end HB
namespace HeapP
theorem srt_top {l L : List En} (hs : Srt l) (hp : l.Perm L) (hh : IsHeap L) (hn : 0 < l.length) : ∃ x, l = x :: l.drop 1 ∧ top L = x := by
  cases l with
  | nil => simp at hn
  | cons x t =>
    have hz : 0 < L.length := by rw [← hp.length_eq]; simp
    have hx : x ∈ L := hp.mem_iff.1 List.mem_cons_self
    have ht : top L ∈ x :: t := hp.mem_iff.2 (List.mem_of_getElem? (top_get hz))
    refine ⟨x, rfl, ?_⟩
    have h1 : le (top L) x := root_mem hh (top_get hz) x hx
    rcases List.mem_cons.1 ht with h | h
    · exact h
    · exact le_antisymm h1 ((List.pairwise_cons.1 hs).1 _ h)
end HeapP
def StepP (p g n : Nat) (w : World) (e : Ending) (w' : World) : Prop :=
  ∃ g' L' A' n' c' l', e = .returned (.tuple #[.slice A' n' c', .bool true]) ∧ Hp w' p g' L' ∧ IsHeap L' ∧ RdX w' p g' A' n' l' ∧ l'.length = n' ∧ n' ≤ c' ∧ Srt l' ∧ l'.Perm L' ∧ n' ≤ n + 1 ∧ Only p g w w' ∧ (g' = g ∨ w.heap.size ≤ g')
set_option maxRecDepth 100000 in
set_option maxHeartbeats 8000000 in
theorem heap_step_pop (p g n c K : Nat) (A : Option Addr) (L l : List En) (a : En) (w : World) (h : Hp w p g L) (hh : IsHeap L) (hr : RdX w p g A n l) (hl : l.length = n) (hc : n ≤ c) (hs : Srt l) (hp : l.Perm L) (hn : n ≤ 100000) (hK : K % 6 = 3 ∨ K % 6 = 4) :
    Calls Try.prog 38 #[.pointer (some ⟨p, 0, none⟩), .slice A n c, .agg #[.int .i64 K, .int .i64 a.t, .int .i64 a.k, .int .i64 a.i]] w (StepP p g n w) := by
  have hLl : L.length = n := by rw [← hp.length_eq]; exact hl
  have hLl : L.length = n := by rw [← hp.length_eq]; exact hl
  have HB0 := hide ((Below.refl w.heap.size w).alloc (Nat.le_refl _) (.cells #[.int .i64 K, .int .i64 a.t, .int .i64 a.k, .int .i64 a.i] 72))
  have HPO := hide (heap_pop p g n L _ (h.below HB0.out) hh hLl (by omega))
  have HR := hide hr
  have HL := hide hl
  have HLl := hide hLl
  have HS := hide hs
  have HPM := hide hp
  have HHP := hide hh
  have hm6 : K % 6 < 6 := Nat.mod_lt _ (by omega)
  obtain ⟨m, hm⟩ : ∃ m, m = K % 6 := ⟨_, rfl⟩
  rw [← hm] at hK hm6
  have e1 : (K : Int).tmod 6 = (m : Int) := by rw [Int.tmod_eq_emod_of_nonneg (by omega)]; omega
  have e2 : (K : Int) % 6 = (m : Int) := by omega
  have hpl := h.pl
  have hgl := h.gl
  clear h hm hh hr hl hs hp hLl
  rcases hK with rfl | rfl
  · go_enter Try.func38, Try.ntmps38
    go_upto_region 5 with (go_at_call 63; refine (HPO.out).mono ?_; rintro e8 w8 ⟨rfl, L8, hp8, hi8, h80, h81, ho8⟩; have HP8 := hide hp8; have HI8 := hide hi8; have H80 := hide h80; have H81 := hide h81; have HO8 := hide ho8; clear hp8 hi8 h80 h81 ho8)
    have HON := hide (((Only.of_below (p := p) (g := g) HB0.out).trans HO8.out (.inl rfl)).alloc (.cells #[.int .i64 (top L).t, .int .i64 (top L).k, .int .i64 (top L).i] 70))
    have HP9 := hide (HP8.out.below ((Below.refl _ _).alloc (Nat.le_refl _) (.cells #[.int .i64 (top L).t, .int .i64 (top L).k, .int .i64 (top L).i] 70)))
    have HT9 := hide (Trio.new w8 70 (.int .i64 (top L).t) (.int .i64 (top L).k) (.int .i64 (top L).i))
    have HRX := hide (HR.out.only HON.out (.inl rfl))
    generalize w8.alloc (.cells #[.int .i64 (top L).t, .int .i64 (top L).k, .int .i64 (top L).i] 70) = w9 at *
    generalize w8.heap.size = r8 at *
    clear HPO HB0
    obtain ⟨t0, t1, t2, -, -, -, -⟩ := HT9.out
    rcases Nat.eq_zero_or_pos n with h0 | h0
    · have htz := top_zero (L := L) (by rw [HLl.out]; exact h0)
      rw [htz] at t0 t1 t2 ⊢
      have HN0 := hide h0
      subst h0
      go_wp2_with fail
      go_quiet (fail)
      go_wp2_with fail
      go_ret2
      have hb : ∀ q, Below w9.heap.size w9 (w9.drewN q) := fun q => below_drewN (Below.refl _ _) q
      have hL8 := H80.out (by first | rfl | trivial)
      have hl0 : l = [] := List.eq_nil_of_length_eq_zero HL.out
      exact ⟨g, L8, A, 0, c, l, rfl, HP9.out.below (hb _), HI8.out, HRX.out.only (g := g) (Only.of_below (p := p) (hb _)) (.inl rfl), HL.out, Nat.zero_le _, HS.out, by rw [hL8, hl0], by omega, HON.out.then_ (hb _), .inl rfl⟩
    · obtain ⟨x, hx1, hx2⟩ := srt_top HS.out HPM.out HHP.out (by rw [HL.out]; exact h0)
      rw [hx2] at t0 t1 t2 ⊢
      obtain ⟨b, off, x', rfl, hb, hg0, x0, x1, x2⟩ := HRX.out.1.ent_at HL.out h0
      have x0 : w9.cell? ⟨b, off, none⟩ = _ := x0
      have x1 : w9.cell? ⟨b, off + 1, none⟩ = _ := x1
      have x2 : w9.cell? ⟨b, off + 2, none⟩ = _ := x2
      have hxx : x' = x := by rw [hx1] at hg0; simpa using hg0.symm
      subst hxx
      have HX1 := hide hx1
      have hpm8 := H81.out h0
      rw [hx2] at hpm8
      have HPM8 := hide (show (l.drop 1).Perm L8 from by
        have h1 := HPM.out.trans hpm8
        rw [HX1.out] at h1
        have h2 := (List.perm_cons _).1 h1
        simpa using h2)
      have hd : decide (0 < n) = true := by simpa using h0
      have hcut := HRX.out.cut (k := 1) (cap := c) h0 hc
      have HLD := hide (show (l.drop 1).length = n - 1 by rw [List.length_drop, HL.out])
      have HSD := hide (HS.out.sublist (List.drop_sublist 1 l))
      have i0 : (0 : Int) < (n : Int) := by omega
      have i1 : (1 : Int) ≤ (n : Int) := by omega
      have i2 : (n : Int) ≤ (c : Int) := by omega
      have h0n : ((n : Int) == 0) = false := by simp; omega
      have H0 := hide h0
      have hbn : ∀ q, Below w9.heap.size w9 (w9.drewN q) := fun q => below_drewN (Below.refl _ _) q
      rw [hd]
      clear hx1 hg0 hpm8 hx2 hd
      have HBN := hide hbn
      clear hbn
      by_cases hck : c = 1
      · rw [if_pos hck] at hcut
        have HC := hide hcut
        clear hcut
        have hn1 : n = 1 := by omega
        subst hck
        subst hn1
        go_wp2_with fail
        go_quiet (fail)
        go_wp2_with fail
        go_ret2
        exact ⟨g, L8, _, _, _, l.drop 1, rfl, HP9.out.below (HBN.out _), HI8.out, HC.out.only (g := g) (Only.of_below (p := p) (HBN.out _)) (.inl rfl), HLD.out, by omega, HSD.out, HPM8.out, by omega, HON.out.then_ (HBN.out _), .inl rfl⟩
      · rw [if_neg hck] at hcut
        have hadd : (⟨b, off, none⟩ : Addr).add (1 * 3) = ⟨b, off + 3, none⟩ := rfl
        simp only [Option.map_some, hadd] at hcut
        have HC := hide hcut
        clear hcut hadd
        go_wp2_with fail
        go_quiet (fail)
        go_wp2_with fail
        go_ret2
        exact ⟨g, L8, _, _, _, l.drop 1, rfl, HP9.out.below (HBN.out _), HI8.out, HC.out.only (g := g) (Only.of_below (p := p) (HBN.out _)) (.inl rfl), HLD.out, by omega, HSD.out, HPM8.out, by omega, HON.out.then_ (HBN.out _), .inl rfl⟩
  · go_enter Try.func38, Try.ntmps38
    go_upto_region 5 with (go_at_call 63; refine (HPO.out).mono ?_; rintro e8 w8 ⟨rfl, L8, hp8, hi8, h80, h81, ho8⟩; have HP8 := hide hp8; have HI8 := hide hi8; have H80 := hide h80; have H81 := hide h81; have HO8 := hide ho8; clear hp8 hi8 h80 h81 ho8)
    have HON := hide (((Only.of_below (p := p) (g := g) HB0.out).trans HO8.out (.inl rfl)).alloc (.cells #[.int .i64 (top L).t, .int .i64 (top L).k, .int .i64 (top L).i] 70))
    have HP9 := hide (HP8.out.below ((Below.refl _ _).alloc (Nat.le_refl _) (.cells #[.int .i64 (top L).t, .int .i64 (top L).k, .int .i64 (top L).i] 70)))
    have HT9 := hide (Trio.new w8 70 (.int .i64 (top L).t) (.int .i64 (top L).k) (.int .i64 (top L).i))
    have HRX := hide (HR.out.only HON.out (.inl rfl))
    generalize w8.alloc (.cells #[.int .i64 (top L).t, .int .i64 (top L).k, .int .i64 (top L).i] 70) = w9 at *
    generalize w8.heap.size = r8 at *
    clear HPO HB0
    obtain ⟨t0, t1, t2, -, -, -, -⟩ := HT9.out
    rcases Nat.eq_zero_or_pos n with h0 | h0
    · have htz := top_zero (L := L) (by rw [HLl.out]; exact h0)
      rw [htz] at t0 t1 t2 ⊢
      have HN0 := hide h0
      subst h0
      go_wp2_with fail
      go_quiet (fail)
      go_wp2_with fail
      go_ret2
      have hb : ∀ q, Below w9.heap.size w9 (w9.drewN q) := fun q => below_drewN (Below.refl _ _) q
      have hL8 := H80.out (by first | rfl | trivial)
      have hl0 : l = [] := List.eq_nil_of_length_eq_zero HL.out
      exact ⟨g, L8, A, 0, c, l, rfl, HP9.out.below (hb _), HI8.out, HRX.out.only (g := g) (Only.of_below (p := p) (hb _)) (.inl rfl), HL.out, Nat.zero_le _, HS.out, by rw [hL8, hl0], by omega, HON.out.then_ (hb _), .inl rfl⟩
    · obtain ⟨x, hx1, hx2⟩ := srt_top HS.out HPM.out HHP.out (by rw [HL.out]; exact h0)
      rw [hx2] at t0 t1 t2 ⊢
      obtain ⟨b, off, x', rfl, hb, hg0, x0, x1, x2⟩ := HRX.out.1.ent_at HL.out h0
      have x0 : w9.cell? ⟨b, off, none⟩ = _ := x0
      have x1 : w9.cell? ⟨b, off + 1, none⟩ = _ := x1
      have x2 : w9.cell? ⟨b, off + 2, none⟩ = _ := x2
      have hxx : x' = x := by rw [hx1] at hg0; simpa using hg0.symm
      subst hxx
      have HX1 := hide hx1
      have hpm8 := H81.out h0
      rw [hx2] at hpm8
      have HPM8 := hide (show (l.drop 1).Perm L8 from by
        have h1 := HPM.out.trans hpm8
        rw [HX1.out] at h1
        have h2 := (List.perm_cons _).1 h1
        simpa using h2)
      have hd : decide (0 < n) = true := by simpa using h0
      have hcut := HRX.out.cut (k := 1) (cap := c) h0 hc
      have HLD := hide (show (l.drop 1).length = n - 1 by rw [List.length_drop, HL.out])
      have HSD := hide (HS.out.sublist (List.drop_sublist 1 l))
      have i0 : (0 : Int) < (n : Int) := by omega
      have i1 : (1 : Int) ≤ (n : Int) := by omega
      have i2 : (n : Int) ≤ (c : Int) := by omega
      have h0n : ((n : Int) == 0) = false := by simp; omega
      have H0 := hide h0
      have hbn : ∀ q, Below w9.heap.size w9 (w9.drewN q) := fun q => below_drewN (Below.refl _ _) q
      rw [hd]
      clear hx1 hg0 hpm8 hx2 hd
      have HBN := hide hbn
      clear hbn
      by_cases hck : c = 1
      · rw [if_pos hck] at hcut
        have HC := hide hcut
        clear hcut
        have hn1 : n = 1 := by omega
        subst hck
        subst hn1
        go_wp2_with fail
        go_quiet (fail)
        go_wp2_with fail
        go_ret2
        exact ⟨g, L8, _, _, _, l.drop 1, rfl, HP9.out.below (HBN.out _), HI8.out, HC.out.only (g := g) (Only.of_below (p := p) (HBN.out _)) (.inl rfl), HLD.out, by omega, HSD.out, HPM8.out, by omega, HON.out.then_ (HBN.out _), .inl rfl⟩
      · rw [if_neg hck] at hcut
        have hadd : (⟨b, off, none⟩ : Addr).add (1 * 3) = ⟨b, off + 3, none⟩ := rfl
        simp only [Option.map_some, hadd] at hcut
        have HC := hide hcut
        clear hcut hadd
        go_wp2_with fail
        go_quiet (fail)
        go_wp2_with fail
        go_ret2
        exact ⟨g, L8, _, _, _, l.drop 1, rfl, HP9.out.below (HBN.out _), HI8.out, HC.out.only (g := g) (Only.of_below (p := p) (HBN.out _)) (.inl rfl), HLD.out, by omega, HSD.out, HPM8.out, by omega, HON.out.then_ (HBN.out _), .inl rfl⟩
end Go.Proofs.Ytknmpfimnbenjaa
