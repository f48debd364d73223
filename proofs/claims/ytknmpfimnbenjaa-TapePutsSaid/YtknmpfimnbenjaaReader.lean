/-
  The walks of package pack's reader: fail, Num.
-/
import Derived.Test.YtknmpfimnbenjaaPack
import Derived.Laws.BytesArg
import Derived.Maps.AppendAt
namespace Go.Proofs.Ytknmpfimnbenjaa
open Go.RowKit HB PackP
set_option linter.unusedVariables false
set_option linter.unusedSimpArgs false
theorem grown_setCell (w : World) (b i : Nat) (v : Value) : w.grownBy (w.setCell ⟨b, i, none⟩ v) (some b) :=
  ⟨rfl, rfl, rfl, by simp [World.setCell], fun k _ hk => Below.heap_setCell _ _ _ _ (fun e => hk (by simp [e]))⟩
/-- A reader at block p: its bytes lie below B and read as l. -/
structure Rr (w : World) (p B : Nat) (l : List Int) (bad : Bool) : Prop where
  hp : p < w.heap.size
  hB : B ≤ p
  f0 : w.frozen? ⟨p, 0, none⟩ = false
  f1 : w.frozen? ⟨p, 1, none⟩ = false
  c1 : w.cell? ⟨p, 1, none⟩ = some (.bool bad)
  c0 : ∃ A n c, n ≤ c ∧ l.length = n ∧ Rd w B 1 A n (l.map (Value.int .u8)) ∧ w.cell? ⟨p, 0, none⟩ = some (.slice A n c)
theorem Rr.set {w : World} {p B : Nat} {l : List Int} {bad : Bool} (h : Rr w p B l bad) (A : Option Addr) (n c : Nat) (l' : List Int) (hc : n ≤ c) (hl : l'.length = n) (hr : Rd w B 1 A n (l'.map (Value.int .u8))) :
    Rr (w.setCell ⟨p, 0, none⟩ (.slice A n c)) p B l' bad ∧ w.grownBy (w.setCell ⟨p, 0, none⟩ (.slice A n c)) (some p) := by
  obtain ⟨A0, n0, c0, _, _, _, h0⟩ := h.c0
  refine ⟨⟨Nat.lt_of_lt_of_le h.hp (grown_setCell w p 0 _).size, h.hB, by rw [World.frozen?_setCell]; exact h.f0, by rw [World.frozen?_setCell]; exact h.f1, ?_, A, n, c, hc, hl, hr.setCell (p := ⟨p, 0, none⟩) h.hB _, World.cell?_setCell_same w _ _ h0⟩, grown_setCell w p 0 _⟩
  exact (World.cell?_setCell_other w ⟨p, 0, none⟩ ⟨p, 1, none⟩ _ (by intro e; injection e with _ e _; cases e)).trans h.c1
theorem Rr.setBad {w : World} {p B : Nat} {l : List Int} {bad : Bool} (h : Rr w p B l bad) (b : Bool) :
    Rr (w.setCell ⟨p, 1, none⟩ (.bool b)) p B l b ∧ w.grownBy (w.setCell ⟨p, 1, none⟩ (.bool b)) (some p) := by
  obtain ⟨A0, n0, c0, h1, h2, h3, h0⟩ := h.c0
  refine ⟨⟨Nat.lt_of_lt_of_le h.hp (grown_setCell w p 1 _).size, h.hB, by rw [World.frozen?_setCell]; exact h.f0, by rw [World.frozen?_setCell]; exact h.f1, World.cell?_setCell_same w _ _ h.c1, A0, n0, c0, h1, h2, h3.setCell (p := ⟨p, 1, none⟩) h.hB _, ?_⟩, grown_setCell w p 1 _⟩
  exact (World.cell?_setCell_other w ⟨p, 1, none⟩ ⟨p, 0, none⟩ _ (by intro e; injection e with _ e _; cases e)).trans h0
theorem Rr.fails {w : World} {p B : Nat} {l : List Int} {bad : Bool} (h : Rr w p B l bad) :
    Rr ((w.setCell ⟨p, 0, none⟩ (.slice none 0 0)).setCell ⟨p, 1, none⟩ (.bool true)) p B [] true ∧ w.grownBy ((w.setCell ⟨p, 0, none⟩ (.slice none 0 0)).setCell ⟨p, 1, none⟩ (.bool true)) (some p) := by
  have h1 := h.set none 0 0 [] (Nat.le_refl _) rfl Rd.nil
  have h2 := h1.1.setBad true
  exact ⟨h2.1, h1.2.trans h2.2⟩
/-- Another reader's calls leave it as it was. -/
theorem Rr.kept {w w' : World} {p q B : Nat} {l : List Int} {bad : Bool} (h : Rr w p B l bad) (hg : w.grownBy w' (some q)) (hq : p ≠ q) (hB : B ≤ q) : Rr w' p B l bad := by
  obtain ⟨A0, n0, c0, h1, h2, h3, h0⟩ := h.c0
  have hne : some p ≠ some q := fun e => hq (Option.some.inj e)
  have hb := hg.block p h.hp hne
  refine ⟨Nat.lt_of_lt_of_le h.hp hg.size, h.hB, ?_, ?_, ?_, A0, n0, c0, h1, h2, ?_, ?_⟩
  · rw [World.frozen?_of_block (w := w) (a := ⟨p, 0, none⟩) hb]; exact h.f0
  · rw [World.frozen?_of_block (w := w) (a := ⟨p, 1, none⟩) hb]; exact h.f1
  · rw [World.cell?_of_block (w := w) (a := ⟨p, 1, none⟩) hb]; exact h.c1
  · exact h3.grown hg (Nat.le_trans h.hB (Nat.le_of_lt h.hp)) (fun k hk => by injection hk with hk; omega)
  · rw [World.cell?_of_block (w := w) (a := ⟨p, 0, none⟩) hb]; exact h0
theorem Rr.below {w w' : World} {p B D : Nat} {l : List Int} {bad : Bool} (h : Rr w p B l bad) (hb : Below D w w') (hp : p < D) : Rr w' p B l bad := by
  obtain ⟨A0, n0, c0, h1, h2, h3, h0⟩ := h.c0
  refine ⟨Nat.lt_of_lt_of_le h.hp hb.size, h.hB, ?_, ?_, ?_, A0, n0, c0, h1, h2, h3.below (hb.mono (Nat.le_trans h.hB (Nat.le_of_lt hp))), ?_⟩
  · exact (hb.frozen (p := ⟨p, 0, none⟩) hp).trans h.f0
  · exact (hb.frozen (p := ⟨p, 1, none⟩) hp).trans h.f1
  · exact (hb.cell (p := ⟨p, 1, none⟩) hp).trans h.c1
  · exact (hb.cell (p := ⟨p, 0, none⟩) hp).trans h0
namespace PackP
/-- what Num says, what is left, whether it failed -/
def nv (l : List Int) : Nat := match num l with | some (v, _) => v | none => 0
def nr (l : List Int) : List Int := match num l with | some (_, k) => l.drop k | none => []
def nb (l : List Int) (bad : Bool) : Bool := match num l with | some _ => bad | none => true
theorem nv_some {l : List Int} {v k : Nat} (h : num l = some (v, k)) (bad : Bool) : nv l = v ∧ nr l = l.drop k ∧ nb l bad = bad := by simp [nv, nr, nb, h]
theorem nv_none {l : List Int} (h : num l = none) (bad : Bool) : nv l = 0 ∧ nr l = [] ∧ nb l bad = true := by simp [nv, nr, nb, h]
theorem and127_all : ∀ f : Fin 256, f.val &&& 127 = f.val % 128 := by decide +kernel
theorem and127 (x : Int) (h0 : 0 ≤ x) (h1 : x < 256) : bits .and .u8 x 127 = ((x.toNat % 128 : Nat) : Int) := by
  obtain ⟨n, rfl⟩ := Int.eq_ofNat_of_zero_le h0
  have h := u8_and_nat n 127 (by omega) (by omega)
  have h2 := and127_all ⟨n, by omega⟩
  simp only at h2
  rw [h2] at h
  exact h
theorem shl_lt {c k : Nat} (hk : k ≤ 9) (h : c < 128) (h9 : k = 9 → c ≤ 1) : c * 2 ^ (7 * k) < 18446744073709551616 := by
  rcases Nat.lt_or_ge k 9 with h1 | h1
  · have : 2 ^ (7 * k) ≤ 2 ^ 56 := Nat.pow_le_pow_right (by omega) (by omega)
    have : c * 2 ^ (7 * k) ≤ 127 * 2 ^ 56 := Nat.mul_le_mul (by omega) this
    omega
  · obtain rfl : k = 9 := by omega
    have := h9 rfl
    have : c * 2 ^ (7 * 9) ≤ 1 * 2 ^ 63 := Nat.mul_le_mul this (Nat.le_refl _)
    omega
theorem or_sum {N c k : Nat} (hN : N < 2 ^ (7 * k)) (hk : k ≤ 9) (h : c < 128) (h9 : k = 9 → c ≤ 1) : bits .or .u64 (N : Int) ((c * 2 ^ (7 * k) : Nat) : Int) = ((N + c * 2 ^ (7 * k) : Nat) : Int) := by
  have h1 := shl_lt hk h h9
  have h2 : 2 ^ (7 * k) ≤ 2 ^ 63 := Nat.pow_le_pow_right (by omega) (by omega)
  rw [u64_or_nat N _ (by omega) h1, Nat.or_comm, nat_join (7 * k) _ _ (Nat.mul_mod_left _ _) hN, Nat.add_comm]
theorem sum_lt {N c k : Nat} (hN : N < 2 ^ (7 * k)) (h : c < 128) : N + c * 2 ^ (7 * k) < 2 ^ (7 * (k + 1)) := by
  have : c * 2 ^ (7 * k) ≤ 127 * 2 ^ (7 * k) := Nat.mul_le_mul (by omega) (Nat.le_refl _)
  rw [show 7 * (k + 1) = 7 * k + 7 by omega, Nat.pow_add]
  omega
theorem scan_stop {i n : Nat} {c : Int} {t : List Int} (h : (i = 9 ∧ 1 < c) ∨ (0 < i ∧ c = 0)) : scan i n (c :: t) = none := by simp only [scan]; rw [if_pos h]
theorem scan_last {i n : Nat} {c : Int} {t : List Int} (h : ¬ ((i = 9 ∧ 1 < c) ∨ (0 < i ∧ c = 0))) (h2 : c < 128) : scan i n (c :: t) = some (n + c.toNat * 2 ^ (7 * i), i + 1) := by simp only [scan]; rw [if_neg h, if_pos h2]
theorem scan_more {i n : Nat} {c : Int} {t : List Int} (h : ¬ ((i = 9 ∧ 1 < c) ∨ (0 < i ∧ c = 0))) (h2 : ¬ c < 128) : scan i n (c :: t) = scan (i + 1) (n + c.toNat % 128 * 2 ^ (7 * i)) t := by simp only [scan]; rw [if_neg h, if_neg h2]
theorem nine {C V k : Nat} {N M : Int} (e2 : (C : Int) * 2 ^ (7 * (k : Int)).toNat = (V : Int)) (e3 : bits .or .u64 N (V : Int) = M) (h : k = 9) : bits .or .u64 N ((C : Int) * 9223372036854775808) = M := by
  subst h
  have e : (C : Int) * 9223372036854775808 = (V : Int) := by rw [← e2]; rfl
  rw [e]; exact e3
end PackP
theorem reader_fail (p B : Nat) (l : List Int) (bad : Bool) (w : World) (h : Rr w p B l bad) :
    Calls Try.prog 51 #[.pointer (some ⟨p, 0, none⟩)] w fun e w' => e = .returned (.int .u64 0) ∧ Rr w' p B [] true ∧ w.grownBy w' (some p) := by
  have HF := hide h.fails
  have f0 := h.f0
  have f1 := h.f1
  have c1 := h.c1
  obtain ⟨A, n, c, _, _, _, c0⟩ := h.c0
  clear h
  go_enter Try.func51, Try.ntmps51
  go_wp2_with fail
  go_ret
  exact ⟨rfl, HF.out.1, HF.out.2⟩
set_option maxRecDepth 100000 in
set_option maxHeartbeats 4000000 in
theorem reader_num (p B : Nat) (l : List Int) (bad : Bool) (w : World) (h : Rr w p B l bad) (hb : ∀ x ∈ l, 0 ≤ x ∧ x < 256) (hn : l.length ≤ 1000000) :
    Calls Try.prog 50 #[.pointer (some ⟨p, 0, none⟩)] w fun e w' => e = .returned (.int .u64 (nv l)) ∧ Rr w' p B (nr l) (nb l bad) ∧ w.grownBy w' (some p) := by
  have HR := hide h
  have HB := hide hb
  have f0 := h.f0
  obtain ⟨A, n, c, hc, hl, hr, c0⟩ := h.c0
  have Hl := hide hl
  have hn2 : n ≤ 1000000 := by omega
  have HF := hide (reader_fail p B l bad w h)
  have HRD := hide hr
  clear h hb hl hr hn
  go_enter Try.func50, Try.ntmps50
  go_wp2_with fail
  go_loopw [3, 4, 5, 11] (fun o x4 x5 i wr => ∃ (k N : Nat), k ≤ n ∧ k ≤ 9 ∧ i = .int .i64 k ∧ o = .int .u64 N ∧ N < 2 ^ (7 * k) ∧ scan k N (l.drop k) = num l ∧ wr = w) (fun _ _ _ i _ => n - (intOf i).toNat)
  case atStart => exact ⟨0, 0, by omega, by omega, rfl, rfl, by simp, rfl, rfl⟩
  case round =>
    obtain ⟨k, N, hk, hk9, rfl, rfl, hN, hs, rfl⟩ := hrel
    have HN := hide hN
    by_cases hlt : k < n
    · obtain ⟨b, off, x, rfl, hbB, hg, cx⟩ := HRD.out.int_at Hl.out hlt
      have hx := HB.out x (List.mem_of_getElem? hg)
      have hd : l.drop k = x :: l.drop (k + 1) := by
        rw [← List.getElem_cons_drop (by rw [Hl.out]; exact hlt)]
        congr 1
        rw [List.getElem?_eq_getElem (by rw [Hl.out]; exact hlt)] at hg
        exact Option.some.inj hg
      rw [hd] at hs
      have HS := hide hs
      clear hs hN hd hg
      by_cases h1 : k = 9 ∧ 1 < x
      · obtain ⟨rfl, h1⟩ := h1
        have hv := nv_none (l := l) (by rw [← HS.out]; exact scan_stop (.inl ⟨rfl, h1⟩)) bad
        have HV := hide hv
        clear hv
        go_wp2_with (go_at_call 51; refine (HF.out).mono ?_; rintro e w1 ⟨rfl, hr1, hg1⟩)
        go_ret
        rw [HV.out.1, HV.out.2.1, HV.out.2.2]
        exact ⟨rfl, hr1, hg1⟩
      · by_cases h2 : 0 < k ∧ x = 0
        · obtain ⟨h2, rfl⟩ := h2
          have hv := nv_none (l := l) (by rw [← HS.out]; exact scan_stop (.inr ⟨h2, rfl⟩)) bad
          have HV := hide hv
          clear hv
          go_wp2_with (go_at_call 51; refine (HF.out).mono ?_; rintro e w1 ⟨rfl, hr1, hg1⟩)
          all_goals
            go_ret
            rw [HV.out.1, HV.out.2.1, HV.out.2.2]
            exact ⟨rfl, hr1, hg1⟩
        · have h3 : ¬ ((k = 9 ∧ 1 < x) ∨ (0 < k ∧ x = 0)) := by rintro (h | h); exact h1 h; exact h2 h
          obtain ⟨C, hC⟩ : ∃ C : Nat, C = x.toNat % 128 := ⟨_, rfl⟩
          have hC8 : C < 128 := by omega
          have hC9 : k = 9 → C ≤ 1 := by omega
          have e1 : bits .and .u8 x 127 = (C : Int) := by rw [hC]; exact and127 x hx.1 hx.2
          obtain ⟨V, hV⟩ : ∃ V : Nat, V = C * 2 ^ (7 * k) := ⟨_, rfl⟩
          have hVl : V < 18446744073709551616 := by rw [hV]; exact shl_lt hk9 hC8 hC9
          have e2 : (C : Int) * 2 ^ (7 * (k : Int)).toNat = (V : Int) := by
            rw [hV, show (7 * (k : Int)).toNat = 7 * k by omega]; simp
          obtain ⟨M, hM⟩ : ∃ M : Nat, M = N + V := ⟨_, rfl⟩
          have e3 : bits .or .u64 (N : Int) (V : Int) = (M : Int) := by rw [hM, hV]; exact or_sum HN.out hk9 hC8 hC9
          have HM := hide hM
          have HV := hide hV
          have HC := hide hC
          have H3 := hide h3
          have H1 := hide h1
          clear hM hV hC h3
          have tq : (k : Int) = 9 → ¬ 1 < x := fun h => fun h' => H1.out ⟨by omega, h'⟩
          have tz : 0 < (k : Int) → ¬ x = 0 := fun h => fun h' => h2 ⟨by omega, h'⟩
          by_cases h4 : x < 128
          · have hv := nv_some (l := l) (v := M) (k := k + 1) (by rw [← HS.out, scan_last H3.out h4, HM.out, HV.out, HC.out, Nat.mod_eq_of_lt (by omega)]) bad
            have hcut := HRD.out.cut (k := k + 1) (cap := c) hlt hc
            rw [Nat.mul_one, ← List.map_drop] at hcut
            have hset := HR.out.set _ _ (c - (k + 1)) (l.drop (k + 1)) (by omega) (by rw [List.length_drop, Hl.out]) hcut
            have HV2 := hide hv
            have HSET := hide hset
            clear hv hset hcut
            go_wp2_with fail
            all_goals
              go_ret
              refine ⟨ret_int (by first | (rw [HV2.out.1]; done) | (rw [HV2.out.1]; exact nine e2 e3 (by omega))), ?_⟩
              rw [HV2.out.2.1, HV2.out.2.2]
              have hs := HSET.out
              by_cases hcc : c = k + 1
              · rw [if_pos hcc] at hs
                first
                  | exact hs
                  | (rw [show c - (k + 1) = 0 by omega] at hs; exact hs)
                  | (rw [show c - (k + 1) = 0 by omega, show n - (k + 1) = n - 10 by omega] at hs; exact hs)
                  | (exfalso; omega)
              · rw [if_neg hcc] at hs
                first
                  | exact hs
                  | (obtain rfl : k = 9 := by omega
                     exact hs)
                  | (exfalso; omega)
          · go_wp2_with fail
            all_goals
              go_roundw
              case rel => exact ⟨k + 1, M, by omega, by omega, by go_num, rfl, by rw [HM.out, HV.out, HC.out]; exact sum_lt HN.out (by omega), by rw [← HS.out, scan_more H3.out h4, HM.out, HV.out, HC.out], by first | rfl | trivial⟩
              case measure => simp [intOf]; omega
    · obtain rfl : k = n := by omega
      have hv := nv_none (l := l) (by rw [← hs, List.drop_of_length_le (by rw [Hl.out]; exact Nat.le_refl _)]; rfl) bad
      have HV := hide hv
      clear hv hs hN
      go_wp2_with (go_at_call 51; refine (HF.out).mono ?_; rintro e w1 ⟨rfl, hr1, hg1⟩)
      go_ret
      rw [HV.out.1, HV.out.2.1, HV.out.2.2]
      exact ⟨rfl, hr1, hg1⟩
end Go.Proofs.Ytknmpfimnbenjaa
