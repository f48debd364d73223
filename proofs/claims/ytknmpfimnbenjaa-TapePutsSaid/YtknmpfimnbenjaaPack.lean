/-
  The walks of package pack's writing: Put, Fold, Unfold, PutInt, PutText, Size; and of the document's own Put and Fold.
-/
import Derived.Test.YtknmpfimnbenjaaBytes
namespace Go.Proofs.Ytknmpfimnbenjaa
open Go.RowKit HB PackP
set_option linter.unusedVariables false
set_option linter.unusedSimpArgs false
set_option maxRecDepth 100000 in
set_option maxHeartbeats 2000000 in
theorem pack_put (v : Value) (l : List Int) (n base : Nat) (w : World) (hown : OwnB w base v l) (hB : base ≤ w.heap.size) (hl : l.length ≤ 1000000) (hn : n < 18446744073709551616) :
    Calls Try.prog 17 #[v, .int .u64 n] w fun e w' => (∃ v', e = .returned v' ∧ OwnB w' base v' (l ++ put n)) ∧ Below base w w' := by
  have HW := hide hown
  have hP := put_ten hn
  have HP := hide hP
  clear hown hP
  go_enter Try.func17, Try.ntmps17
  go_wp2_with fail
  go_loopw [0, 1] (fun o i wr => ∃ (m : Nat) (k : List Int), m ≤ n ∧ i = .int .u64 m ∧ OwnB wr base o (l ++ k) ∧ k ++ put m = put n ∧ Below base w wr) (fun _ i _ => (intOf i).toNat)
  case atStart => exact ⟨n, [], Nat.le_refl _, rfl, by simpa using HW.out, rfl, Below.refl _ _⟩
  case round =>
    obtain ⟨m, k, hm, rfl, hown, hk, hbel⟩ := hrel
    have HO := hide hown
    have hz := hbel.size
    have hL : (l ++ k).length ≤ 1000000000 := by
      have := congrArg List.length hk
      rw [List.length_append] at this ⊢
      have := HP.out
      omega
    have HK := hide hk
    have HL := hide hL
    clear hown hk hL
    by_cases hlt : m < 128
    · have ew : IntKind.u8.wrap (m : Int) = (m : Int) := by rw [IntKind.wrap_u8']; omega
      have EW := hide ew
      clear ew
      go_wp2_with (at_builtin; refine push rfl _ _ 22 rfl Try.underlying22 Byte.info rfl (by omega) (by omega) rfl (HO.out.alloc _) (m : Int) ⟨_, 0, none⟩ 1 rfl rfl (by first | exact cell_one_new _ _ _ | (rw [← EW.out]; exact cell_one_new _ _ _)) (by simp [Value.oneCell']) HL.out (Nat.le_trans (Nat.le_trans hB hz) (by simp)) ?_; intro v' w1 hown1 hb1)
      go_ret
      refine ⟨⟨_, rfl, ?_⟩, ?_⟩
      · rw [← HK.out, put_small hlt, ← List.append_assoc]; exact hown1
      · exact (hbel.alloc (Nat.le_trans hB hz) _).trans hb1
    · have ew := or128 m
      have EW := hide ew
      obtain ⟨q, hq⟩ : ∃ q : Nat, q = m / 128 := ⟨_, rfl⟩
      have e2 : (m : Int) / 128 = (q : Int) := by omega
      have HQ := hide hq
      clear hq
      obtain ⟨y, hy⟩ : ∃ y : Int, y = ((128 + m % 128 : Nat) : Int) := ⟨_, rfl⟩
      rw [← hy] at ew
      have ew2 : bits .or .u8 ((m : Int) % 256) 128 = y := by rw [← IntKind.wrap_u8']; exact ew
      have HY := hide hy
      clear hy
      go_wp2_with (at_builtin; refine push rfl _ _ 22 rfl Try.underlying22 Byte.info rfl (by omega) (by omega) rfl (HO.out.alloc _) y ⟨_, 0, none⟩ 1 rfl rfl (cell_one_new _ _ _) (by simp [Value.oneCell']) HL.out (Nat.le_trans (Nat.le_trans hB hz) (by simp)) ?_; intro v' w1 hown1 hb1)
      go_roundw
      case rel => exact ⟨q, k ++ [y], by have := HQ.out; omega, by go_num, by rw [← List.append_assoc]; exact hown1, by rw [← HK.out, put_big hlt, HY.out, List.append_assoc, HQ.out]; rfl, (hbel.alloc (Nat.le_trans hB hz) _).trans hb1⟩
      case measure => have := HQ.out; simp [intOf]; omega
theorem pack_fold (n : Int) (w : World) (h0 : -9223372036854775808 ≤ n) (h1 : n ≤ 9223372036854775807) :
    Calls Try.prog 18 #[.int .i64 n] w fun e w' => e = .returned (.int .u64 (fold n)) ∧ w = w' := by
  have e := fold_bits h0 h1
  have E := hide e
  clear e
  go_enter Try.func18, Try.ntmps18
  go_wp2_with fail
  go_ret
  exact ⟨ret_int (by rw [← E.out]), rfl⟩
theorem pack_unfold (u : Nat) (w : World) (h : u < 18446744073709551616) :
    Calls Try.prog 19 #[.int .u64 u] w fun e w' => e = .returned (.int .i64 (unfold u)) ∧ w = w' := by
  have e := unfold_bits h
  have e2 : IntKind.i64.wrap ((u : Int) / 2) = (u : Int) / 2 := by rw [IntKind.wrap_i64]; omega
  rw [e2] at e
  have E := hide e
  clear e
  go_enter Try.func19, Try.ntmps19
  go_wp2_with fail
  go_ret
  exact ⟨ret_int (by rw [← E.out]; simp only [wrap64, IntKind.wrap_i64]), rfl⟩
theorem pack_putInt (v : Value) (l : List Int) (n : Int) (base : Nat) (w : World) (hown : OwnB w base v l) (hB : base ≤ w.heap.size) (hl : l.length ≤ 1000000) (h0 : -9223372036854775808 ≤ n) (h1 : n ≤ 9223372036854775807) :
    Calls Try.prog 14 #[v, .int .i64 n] w fun e w' => (∃ v', e = .returned v' ∧ OwnB w' base v' (l ++ put (fold n))) ∧ Below base w w' := by
  have H1 := hide (pack_fold n w h0 h1)
  have H2 := hide (pack_put v l (fold n) base w hown hB hl (fold_lt h0 h1))
  clear hown
  go_enter Try.func14, Try.ntmps14
  go_wp2_with (first | (go_at_call 18; refine (H1.out).mono ?_; rintro e w1 ⟨rfl, rfl⟩) | (go_at_call 17; refine (H2.out).mono ?_; rintro e w1 ⟨⟨v', rfl, hown1⟩, hb1⟩))
  go_ret
  exact ⟨⟨_, rfl, hown1⟩, hb1⟩
set_option maxRecDepth 100000 in
theorem pack_putText (v : Value) (l : List Int) (s : ByteArray) (base : Nat) (w : World) (hown : OwnB w base v l) (hB : base ≤ w.heap.size) (hl : l.length ≤ 1000000) (hs : s.size ≤ 1000000) :
    Calls Try.prog 16 #[v, .string s] w fun e w' => (∃ v', e = .returned v' ∧ OwnB w' base v' (l ++ put s.size ++ txt s)) ∧ Below base w w' := by
  have H2 := hide (pack_put v l s.size base w hown hB hl (by omega))
  have HP := hide (put_ten (n := s.size) (by omega))
  clear hown
  go_enter Try.func16, Try.ntmps16
  go_wp2_with (first | (go_at_call 17; refine (H2.out).mono ?_; rintro e w1 ⟨⟨v', rfl, hown1⟩, hb1⟩) | (at_builtin; refine pushText rfl _ _ 22 9 rfl Try.underlying22 Try.underlying9 rfl hown1 s rfl (by rw [List.length_append]; have := HP.out; omega) (by omega) (Nat.le_trans hB hb1.size) ?_; intro v2 w2 hown2 hb2))
  go_ret
  exact ⟨⟨_, rfl, hown2⟩, hb1.trans hb2⟩
set_option maxRecDepth 100000 in
theorem pack_size (n : Nat) (w : World) (hn : n < 18446744073709551616) :
    Calls Try.prog 20 #[.int .u64 n] w fun e w' => e = .returned (.int .i64 (put n).length) ∧ Below w.heap.size w w' := by
  have H2 := hide (pack_put (.slice none 0 0) [] n w.heap.size w (Own.nil _ _ _ _ _) (Nat.le_refl _) (by simp) hn)
  go_enter Try.func20, Try.ntmps20
  go_wp2_with (go_at_call 17; refine (H2.out).mono ?_; rintro e w1 ⟨⟨v', rfl, hown1⟩, hb1⟩; rw [List.nil_append] at hown1; obtain ⟨A, c, rfl, hc, hr⟩ := hown1.ints)
  go_ret
  exact ⟨rfl, hb1⟩
theorem ref_fold (n : Int) (w : World) (h0 : -9223372036854775808 ≤ n) (h1 : n ≤ 9223372036854775807) :
    Calls Try.prog 11 #[.int .i64 n] w fun e w' => e = .returned (.int .u64 (fold n)) ∧ w = w' := by
  by_cases h : 0 ≤ n
  · have e1 : IntKind.u64.wrap n = n := by rw [IntKind.wrap_u64]; omega
    have e2 : IntKind.u64.wrap (2 * n) = 2 * n := by rw [IntKind.wrap_u64]; omega
    have e3 : 2 * n = (fold n : Int) := by unfold fold; rw [if_pos h]; omega
    have E3 := hide e3
    clear e3
    go_enter Try.func11, Try.ntmps11
    go_wp2_with fail
    go_ret
    exact ⟨ret_int (by rw [← E3.out]), rfl⟩
  · obtain ⟨m, hm⟩ : ∃ m : Int, m = -(n + 1) := ⟨_, rfl⟩
    have e0 : IntKind.i64.wrap (n + 1) = n + 1 := by rw [IntKind.wrap_i64]; omega
    have e1 : IntKind.i64.wrap (-(n + 1)) = m := by rw [IntKind.wrap_i64, hm]; omega
    have e2 : IntKind.u64.wrap m = m := by rw [IntKind.wrap_u64, hm]; omega
    have e3 : IntKind.u64.wrap (2 * m) = 2 * m := by rw [IntKind.wrap_u64, hm]; omega
    have e4 : IntKind.u64.wrap (2 * m + 1) = 2 * m + 1 := by rw [IntKind.wrap_u64, hm]; omega
    have e5 : 2 * m + 1 = (fold n : Int) := by unfold fold; rw [if_neg h, hm]; omega
    have E5 := hide e5
    clear e5 hm
    go_enter Try.func11, Try.ntmps11
    go_wp2_with fail
    go_ret
    exact ⟨ret_int (by rw [← E5.out]), rfl⟩
set_option maxRecDepth 100000 in
set_option maxHeartbeats 2000000 in
theorem ref_put : ∀ (n : Nat), n < 18446744073709551616 → ∀ (w : World),
    Calls Try.prog 12 #[.int .u64 n] w fun e w' => (∃ v, e = .returned v ∧ OwnB w' w.heap.size v (put n)) ∧ Below w.heap.size w w' := by
  intro n
  induction n using Nat.strongRecOn with
  | ind n ih =>
    intro hn w
    by_cases hlt : n < 128
    · have ew : IntKind.u8.wrap (n : Int) = (n : Int) := by rw [IntKind.wrap_u8']; omega
      have hO := hide (Own.block (base := w.heap.size) (f := num .u8) (sz := 1) w 5 #[.int .u8 n] [(n : Int)] (Nat.le_refl _) rfl (fun _ => rfl) (by simp))
      clear ih
      go_enter Try.func12, Try.ntmps12
      go_wp2_with fail
      go_ret
      rw [put_small hlt]
      exact ⟨⟨_, rfl, hO.out⟩, by go_grown⟩
    · have e1 : IntKind.u8.wrap (128 + (n : Int) % 128) = 128 + (n : Int) % 128 := by rw [IntKind.wrap_u8']; omega
      obtain ⟨q, hq⟩ : ∃ q : Nat, q = n / 128 := ⟨_, rfl⟩
      have e2 : (n : Int) / 128 = (q : Int) := by omega
      have hy : (128 + (n : Int) % 128) = ((128 + n % 128 : Nat) : Int) := by omega
      have hO := hide (fun (y : Int) => Own.block (base := w.heap.size) (f := num .u8) (sz := 1) w 5 #[.int .u8 y] [y] (Nat.le_refl _) rfl (fun _ => rfl) (by simp))
      have IH := hide (fun W => ih q (by omega) (by omega) W)
      have HP := hide (put_ten (n := q) (by omega))
      have HQ := hide hq
      have HY := hide hy
      clear ih hy hq
      go_enter Try.func12, Try.ntmps12
      go_wp2_with (first | (go_at_call 12; refine (IH.out _).mono ?_; rintro e w1 ⟨⟨v, rfl, hown1⟩, hb1⟩; obtain ⟨A', c', rfl, hc', hr'⟩ := hown1.ints; have hz1 := hb1.size; have HN1 := hide ((hO.out _).below hb1)) | (at_builtin; refine pushAll rfl _ _ 22 rfl Try.underlying22 Byte.info rfl (by omega) (by omega) rfl HN1.out (put q) w1.heap.size A' _ c' rfl rfl (by rw [map_flat]; exact hr') (by rw [map_flat]; intro u hu; obtain ⟨z, _, rfl⟩ := List.mem_map.1 hu; rfl) (by simp) (by have := HP.out; omega) (Nat.le_trans (by simp) hz1) ?_; intro v2 w2 hown2 hb2))
      go_ret
      refine ⟨⟨_, rfl, ?_⟩, ?_⟩
      · rw [put_big hlt, ← HY.out, ← HQ.out]; exact hown2
      · exact ((show Below w.heap.size w _ from by go_grown).trans (hb1.mono (by simp))).trans hb2
end Go.Proofs.Ytknmpfimnbenjaa
