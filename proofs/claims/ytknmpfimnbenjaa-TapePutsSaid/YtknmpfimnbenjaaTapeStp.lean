/-
  Numbers behind a row of bytes, and where the new row lies: pack.Put, pack.PutInt, tape.num.
-/
import Derived.Test.YtknmpfimnbenjaaPack
import Derived.Test.YtknmpfimnbenjaaOwn2
namespace Go.Proofs.Ytknmpfimnbenjaa
open Go.RowKit HB PackP
set_option linter.unusedVariables false
set_option linter.unusedSimpArgs false
namespace HB
/-- v has become v': only v's own block has changed, and v' lies there or in a new block. -/
structure Stp (w w' : World) (v v' : Value) : Prop where
  g : w.grownBy w' v.ownBlock
  nx : v'.ownBlock = v.ownBlock ∨ ∃ k, v'.ownBlock = some k ∧ w.heap.size ≤ k
theorem Stp.refl (w : World) (v : Value) : Stp w w v v := ⟨⟨rfl, rfl, rfl, Nat.le_refl _, fun _ _ _ => rfl⟩, .inl rfl⟩
theorem Stp.alloc {w w' : World} {v v' : Value} (h : Stp w w' v v') (o : Obj) : Stp w (w'.alloc o) v v' := by
  refine ⟨⟨h.g.os, h.g.tape, h.g.output, Nat.le_trans h.g.size (by simp), fun k hk hne => ?_⟩, h.nx⟩
  have := ((Below.refl w'.heap.size w').alloc (Nat.le_refl _) o).block k (Nat.lt_of_lt_of_le hk h.g.size)
  exact this.trans (h.g.block k hk hne)
theorem Stp.trans {w w1 w2 : World} {v v1 v2 : Value} (h : Stp w w1 v v1) (k : Stp w1 w2 v1 v2) : Stp w w2 v v2 := by
  refine ⟨⟨k.g.os.trans h.g.os, k.g.tape.trans h.g.tape, k.g.output.trans h.g.output, Nat.le_trans h.g.size k.g.size, fun b hb hne => ?_⟩, ?_⟩
  · have h1 : some b ≠ v1.ownBlock := by
      rcases h.nx with e | ⟨z, e, hz⟩
      · rw [e]; exact hne
      · rw [e]; intro he; injection he with he; omega
    exact (k.g.block b (Nat.lt_of_lt_of_le hb h.g.size) h1).trans (h.g.block b hb hne)
  · rcases k.nx with e | ⟨z, e, hz⟩
    · rw [e]; exact h.nx
    · exact .inr ⟨z, e, Nat.le_trans h.g.size hz⟩
theorem Stp.cell {w w' : World} {v v' : Value} (h : Stp w w' v v') {p : Addr} {u : Value} (hc : w.cell? p = some u) (hne : some p.block ≠ v.ownBlock) : w'.cell? p = some u := by
  rw [World.cell?_of_block (h.g.block p.block (World.block_lt_of_cell? w p hc) hne)]; exact hc
/-- a block outside v stays outside -/
theorem Stp.out {w w' : World} {v v' : Value} (h : Stp w w' v v') {b : Nat} (hb : b < w.heap.size) (hne : some b ≠ v.ownBlock) : some b ≠ v'.ownBlock := by
  rcases h.nx with e | ⟨z, e, hz⟩
  · rw [e]; exact hne
  · rw [e]; intro he; injection he with he; omega
theorem Stp.below {α : Type} {w w' : World} {v v' : Value} {base : Nat} {e : TypeId} {sz : Nat} {f : α → List Value} {l : List α} (h : Stp w w' v v') (hown : Own w base e sz f v l) (hB : base ≤ w.heap.size) : Below base w w' :=
  (Below.refl base w).grown h.g hB (fun k hk => (hown.row.lt k hk).1)
theorem Own.outside {α : Type} {w : World} {v : Value} {base : Nat} {e : TypeId} {sz : Nat} {f : α → List Value} {l : List α} (h : Own w base e sz f v l) {b : Nat} (hb : w.heap.size ≤ b) : some b ≠ v.ownBlock := by
  intro he
  have := (h.row.lt b he.symm).2
  omega
end HB
set_option maxRecDepth 100000 in
set_option maxHeartbeats 2000000 in
theorem pack_put2 (v : Value) (l : List Int) (n base : Nat) (w : World) (hown : OwnB w base v l) (hB : base ≤ w.heap.size) (hl : l.length ≤ 1000000) (hn : n < 18446744073709551616) :
    Calls Try.prog 17 #[v, .int .u64 n] w fun e w' => ∃ v', e = .returned v' ∧ OwnB w' base v' (l ++ put n) ∧ Stp w w' v v' := by
  have HW := hide hown
  have hP := put_ten hn
  have HP := hide hP
  clear hown hP
  go_enter Try.func17, Try.ntmps17
  go_wp2_with fail
  go_loopw [0, 1] (fun o i wr => ∃ (m : Nat) (k : List Int), m ≤ n ∧ i = .int .u64 m ∧ OwnB wr base o (l ++ k) ∧ k ++ put m = put n ∧ Stp w wr v o) (fun _ i _ => (intOf i).toNat)
  case atStart => exact ⟨n, [], Nat.le_refl _, rfl, by simpa using HW.out, rfl, Stp.refl _ _⟩
  case round =>
    obtain ⟨m, k, hm, rfl, hown, hk, hst⟩ := hrel
    have HO := hide hown
    have HST := hide hst
    have hz := hst.g.size
    have hL : (l ++ k).length ≤ 1000000000 := by
      have := congrArg List.length hk
      rw [List.length_append] at this ⊢
      have := HP.out
      omega
    have HK := hide hk
    have HL := hide hL
    clear hown hk hL hst
    by_cases hlt : m < 128
    · have ew : IntKind.u8.wrap (m : Int) = (m : Int) := by rw [IntKind.wrap_u8']; omega
      have EW := hide ew
      clear ew
      go_wp2_with (at_builtin; refine push2 rfl _ _ 22 rfl Try.underlying22 Byte.info rfl (by omega) (by omega) rfl (HO.out.alloc _) (m : Int) ⟨_, 0, none⟩ 1 rfl rfl (by first | exact cell_one_new _ _ _ | (rw [← EW.out]; exact cell_one_new _ _ _)) (by simp [Value.oneCell']) HL.out (Nat.le_trans (Nat.le_trans hB hz) (by simp)) ?_; intro v' w1 hown1 hb1 hg1 hn1)
      go_ret
      refine ⟨_, rfl, ?_, ?_⟩
      · rw [← HK.out, put_small hlt, ← List.append_assoc]; exact hown1
      · exact (HST.out.alloc _).trans ⟨hg1, hn1.imp id fun e => ⟨_, e, Nat.le_refl _⟩⟩
    · have ew := or128 m
      have EW := hide ew
      obtain ⟨q, hq⟩ : ∃ q : Nat, q = m / 128 := ⟨_, rfl⟩
      have e2 : (m : Int) / 128 = (q : Int) := by omega
      have HQ := hide hq
      clear hq
      obtain ⟨y, hy⟩ : ∃ y : Int, y = ((128 + m % 128 : Nat) : Int) := ⟨_, rfl⟩
      rw [← hy] at ew
      have ew2 : bits .or .u8 ((m : Int) % 256) 128 = y := by rw [← IntKind.wrap_u8']; exact ew
      have HY := hide hy
      clear hy
      go_wp2_with (at_builtin; refine push2 rfl _ _ 22 rfl Try.underlying22 Byte.info rfl (by omega) (by omega) rfl (HO.out.alloc _) y ⟨_, 0, none⟩ 1 rfl rfl (cell_one_new _ _ _) (by simp [Value.oneCell']) HL.out (Nat.le_trans (Nat.le_trans hB hz) (by simp)) ?_; intro v' w1 hown1 hb1 hg1 hn1)
      go_roundw
      case rel => exact ⟨q, k ++ [y], by have := HQ.out; omega, by go_num, by rw [← List.append_assoc]; exact hown1, by rw [← HK.out, put_big hlt, HY.out, List.append_assoc, HQ.out]; rfl, (HST.out.alloc _).trans ⟨hg1, hn1.imp id fun e => ⟨_, e, Nat.le_refl _⟩⟩⟩
      case measure => have := HQ.out; simp [intOf]; omega
theorem pack_putInt2 (v : Value) (l : List Int) (n : Int) (base : Nat) (w : World) (hown : OwnB w base v l) (hB : base ≤ w.heap.size) (hl : l.length ≤ 1000000) (h0 : -9223372036854775808 ≤ n) (h1 : n ≤ 9223372036854775807) :
    Calls Try.prog 14 #[v, .int .i64 n] w fun e w' => ∃ v', e = .returned v' ∧ OwnB w' base v' (l ++ put (fold n)) ∧ Stp w w' v v' := by
  have H1 := hide (pack_fold n w h0 h1)
  have H2 := hide (pack_put2 v l (fold n) base w hown hB hl (fold_lt h0 h1))
  clear hown
  go_enter Try.func14, Try.ntmps14
  go_wp2_with (first | (go_at_call 18; refine (H1.out).mono ?_; rintro e w1 ⟨rfl, rfl⟩) | (go_at_call 17; refine (H2.out).mono ?_; rintro e w1 ⟨v', rfl, hown1, hb1⟩))
  go_ret
  exact ⟨_, rfl, hown1, hb1⟩
theorem tape_num (v : Value) (l : List Int) (n : Int) (base : Nat) (w : World) (hown : OwnB w base v l) (hB : base ≤ w.heap.size) (hl : l.length ≤ 1000000) (h0 : -9223372036854775808 ≤ n) (h1 : n ≤ 9223372036854775807) :
    Calls Try.prog 59 #[v, .int .i64 n] w fun e w' => ∃ v', e = .returned v' ∧ OwnB w' base v' (l ++ put (fold n)) ∧ Stp w w' v v' := by
  have H2 := hide (pack_putInt2 v l n base w hown hB hl h0 h1)
  clear hown
  go_enter Try.func59, Try.ntmps59
  go_wp2_with (go_at_call 14; refine (H2.out).mono ?_; rintro e w1 ⟨v', rfl, hown1, hb1⟩)
  go_ret
  exact ⟨_, rfl, hown1, hb1⟩
end Go.Proofs.Ytknmpfimnbenjaa
