/-
  tape.Put: a log's bytes.
-/
import Derived.Test.YtknmpfimnbenjaaTapeLog
import Derived.Deep.RegionHeld3
namespace Go.Proofs.Ytknmpfimnbenjaa
open Go.RowKit HB PackP TapeP
set_option linter.unusedVariables false
set_option linter.unusedSimpArgs false
/-- three cells in a block -/
structure Lc (w : World) (p : Nat) (a b c : Value) : Prop where
  c0 : w.cell? ⟨p, 0, none⟩ = some a
  c1 : w.cell? ⟨p, 1, none⟩ = some b
  c2 : w.cell? ⟨p, 2, none⟩ = some c
theorem Lc.new (w : World) (a b c : Value) (ty : TypeId) : Lc (w.alloc (.cells #[a, b, c] ty)) w.heap.size a b c := by
  refine ⟨?_, ?_, ?_⟩
  · rw [cell_of_row _ w.heap.size 0 _ ty (0, 0) (heap_alloc_new w _)]; rfl
  · rw [cell_of_row _ w.heap.size 1 _ ty (0, 0) (heap_alloc_new w _)]; rfl
  · rw [cell_of_row _ w.heap.size 2 _ ty (0, 0) (heap_alloc_new w _)]; rfl
theorem Lc.below {w w' : World} {p D : Nat} {a b c : Value} (h : Lc w p a b c) (hb : Below D w w') (hp : p < D) : Lc w' p a b c :=
  ⟨(hb.cell (p := ⟨p, 0, none⟩) hp).trans h.c0, (hb.cell (p := ⟨p, 1, none⟩) hp).trans h.c1, (hb.cell (p := ⟨p, 2, none⟩) hp).trans h.c2⟩
/-- the log's box, and the bytes so far -/
structure PS (w wr : World) (a b c : Value) (o : Value) (d : List Int) : Prop where
  own : OwnB wr (w.heap.size + 1) o d
  bx : Lc wr w.heap.size a b c
  b : Below w.heap.size w wr
  z : w.heap.size < wr.heap.size
theorem PS.step {w wr w' : World} {a b c o o' : Value} {d d' : List Int} (h : PS w wr a b c o d) (ho : OwnB w' (w.heap.size + 1) o' d') (hs : Stp wr w' o o') : PS w w' a b c o' d' := by
  have hb := hs.below h.own h.z
  exact ⟨ho, h.bx.below hb (by omega), h.b.trans (hb.mono (by omega)), Nat.lt_of_lt_of_le h.z hb.size⟩
theorem PS.grow {w wr w' : World} {a b c o : Value} {d : List Int} (h : PS w wr a b c o d) (hb : Below wr.heap.size wr w') : PS w w' a b c o d :=
  ⟨Own.below h.own hb, h.bx.below hb h.z, h.b.trans (hb.mono (Nat.le_of_lt h.z)), Nat.lt_of_lt_of_le h.z hb.size⟩
theorem PS.bel {w wr w' : World} {a b c o o' : Value} {d : List Int} (h : PS w wr a b c o d) (hs : Stp wr w' o o') : Below (w.heap.size + 1) wr w' := hs.below h.own h.z
theorem cell4 (w : World) (a b c d : Value) (ty : TypeId) : (w.alloc (.cells #[a, b, c, d] ty)).cell? ⟨w.heap.size, 0, none⟩ = some a ∧ (w.alloc (.cells #[a, b, c, d] ty)).cell? ⟨w.heap.size, 1, none⟩ = some b
    ∧ (w.alloc (.cells #[a, b, c, d] ty)).cell? ⟨w.heap.size, 2, none⟩ = some c ∧ (w.alloc (.cells #[a, b, c, d] ty)).cell? ⟨w.heap.size, 3, none⟩ = some d := by
  refine ⟨?_, ?_, ?_, ?_⟩
  · rw [cell_of_row _ w.heap.size 0 _ ty (0, 0) (heap_alloc_new w _)]; rfl
  · rw [cell_of_row _ w.heap.size 1 _ ty (0, 0) (heap_alloc_new w _)]; rfl
  · rw [cell_of_row _ w.heap.size 2 _ ty (0, 0) (heap_alloc_new w _)]; rfl
  · rw [cell_of_row _ w.heap.size 3 _ ty (0, 0) (heap_alloc_new w _)]; rfl
theorem ps_num {w wr : World} {a b c o : Value} {d : List Int} (h : PS w wr a b c o d) (hl : d.length ≤ 1000000) (y : Int) (hy : I64 y) :
    Calls Try.prog 59 #[o, .int .i64 y] wr fun e w' => ∃ o', e = .returned o' ∧ PS w w' a b c o' (d ++ put (fold y)) ∧ Stp wr w' o o' :=
  (tape_num o d y _ wr h.own h.z hl hy.1 hy.2).mono fun e w' ⟨o', he, ho, hs⟩ => ⟨o', he, h.step ho hs, hs⟩
theorem ps_put {w wr : World} {a b c o : Value} {d : List Int} (h : PS w wr a b c o d) (hl : d.length ≤ 1000000) (n : Nat) (hn : n < 18446744073709551616) :
    Calls Try.prog 17 #[o, .int .u64 n] wr fun e w' => ∃ o', e = .returned o' ∧ PS w w' a b c o' (d ++ put n) ∧ Stp wr w' o o' :=
  (pack_put2 o d n _ wr h.own h.z hl hn).mono fun e w' ⟨o', he, ho, hs⟩ => ⟨o', he, h.step ho hs, hs⟩
theorem ps_put0 {w wr : World} {a b c o : Value} {d : List Int} (h : PS w wr a b c o d) (hl : d.length ≤ 1000000) :
    Calls Try.prog 17 #[o, .int .u64 0] wr fun e w' => ∃ o', e = .returned o' ∧ PS w w' a b c o' (d ++ put (dn false)) ∧ Stp wr w' o o' := ps_put h hl 0 (by omega)
theorem ps_put1 {w wr : World} {a b c o : Value} {d : List Int} (h : PS w wr a b c o d) (hl : d.length ≤ 1000000) :
    Calls Try.prog 17 #[o, .int .u64 1] wr fun e w' => ∃ o', e = .returned o' ∧ PS w w' a b c o' (d ++ put (dn true)) ∧ Stp wr w' o o' := ps_put h hl 1 (by omega)
theorem ps_start (w : World) (a b c : Value) (ty : TypeId) : PS w ((w.alloc (.cells #[a, b, c] ty)).alloc (.cells #[.int .u8 76] 5)) a b c (.slice (some ⟨w.heap.size + 1, 0, none⟩) 1 1) [76] := by
  have hz : (w.alloc (.cells #[a, b, c] ty)).heap.size = w.heap.size + 1 := by simp
  have h := Own.block (base := w.heap.size + 1) (f := num .u8) (sz := 1) (w.alloc (.cells #[a, b, c] ty)) 5 #[.int .u8 76] [76] (by rw [hz]; exact Nat.le_refl _) rfl (fun _ => rfl) (by simp)
  rw [hz] at h
  refine ⟨h, (Lc.new w a b c ty).below ((Below.refl _ _).alloc (B := w.heap.size + 1) (by rw [hz]; exact Nat.le_refl _) _) (by omega), by go_grown, by simp; omega⟩
theorem drop_cons {α : Type} {l : List α} {k : Nat} {x : α} (h : l[k]? = some x) : l.drop k = x :: l.drop (k + 1) := by
  obtain ⟨hk, e⟩ := List.getElem?_eq_some_iff.1 h
  rw [List.drop_eq_getElem_cons hk, e]
set_option maxRecDepth 100000 in
set_option maxHeartbeats 4000000 in
theorem tape_put (A A' : Option Addr) (n c n' c' B : Nat) (x : Lo) (w : World) (hT : Trs w B A n x.ts) (hL : Lgs w B A' n' x.ls) (hB : B ≤ w.heap.size) (hok : x.ok) (hlen : (pB x).length ≤ 900000) (hn : n ≤ 900000) (hn' : n' ≤ 900000) :
    Calls Try.prog 33 #[.agg #[.slice A n c, .slice A' n' c', .int .i64 x.u]] w fun e w' => (∃ v, e = .returned v ∧ OwnB w' w.heap.size v (76 :: pB x)) ∧ Below w.heap.size w w' := by
  have HT := hide hT
  have HL := hide hL
  have HOK := hide hok
  have ln := hT.2
  have ln' := hL.len
  have HF : Hid (∃ F, F = 76 :: pB x ∧ F.length ≤ 900001) := hide ⟨_, rfl, by simpa using hlen⟩
  obtain ⟨F, hF, hFl⟩ := HF.out
  obtain ⟨T, hTt⟩ : ∃ T, T = put n' ++ x.ls.flatMap pC := ⟨_, rfl⟩
  have eF : [76] ++ put (fold x.u) ++ put n ++ (x.ts.flatMap pT ++ T) = F := by rw [hF, hTt]; simp [pB, ln, ln', List.append_assoc]
  have EF := hide eF
  have ETt := hide hTt
  have EF2 := hide hF
  have lenOf : ∀ d r : List Int, d ++ r = F → d.length ≤ 1000000 := fun d r h => by have := congrArg List.length h; rw [List.length_append] at this; omega
  have HLEN := hide lenOf
  rw [← hF]
  clear hT hL hok hlen hTt eF hF lenOf HF
  have ew1 : IntKind.u64.wrap (n : Int) = (n : Int) := by rw [IntKind.wrap_u64]; omega
  have ew2 : IntKind.u64.wrap (n' : Int) = (n' : Int) := by rw [IntKind.wrap_u64]; omega
  have hu := HOK.out.u
  have HS := hide (ps_start w (.slice A n c) (.slice A' n' c') (.int .i64 x.u) 57)
  go_enter Try.func33, Try.ntmps33
  go_wp2_with (first
    | (go_at_call 59; refine (ps_num HS.out (by simp) x.u hu).mono ?_; rintro e w1 ⟨o1, rfl, hs1, -⟩; obtain ⟨k0, k1, k2⟩ := hs1.bx; have HS1 := hide hs1)
    | (go_at_call 17; refine (ps_put HS1.out (HLEN.out _ _ (by have := EF.out; simpa [List.append_assoc] using this)) n (by omega)).mono ?_; rintro e w2 ⟨o2, rfl, hs2, -⟩; obtain ⟨m0, m1, m2⟩ := hs2.bx; have HS2 := hide hs2))
  clear k0 k1 k2 m0 m1 m2 hs1 hs2
  go_loopw [3, 26] (fun o i wr => ∃ (k : Nat) (d : List Int), k ≤ n ∧ i = .int .i64 k ∧ PS w wr (.slice A n c) (.slice A' n' c') (.int .i64 x.u) o d ∧ d ++ ((x.ts.drop k).flatMap pT ++ T) = F) (fun _ i _ => n - (intOf i).toNat)
  case atStart => exact ⟨0, _, Nat.zero_le _, rfl, HS2.out, EF.out⟩
  case round =>
    obtain ⟨k, d, hk, rfl, hps, hd⟩ := hrel
    have HPS := hide hps
    have HD := hide hd
    have hb0 := hps.b
    obtain ⟨m0, m1, m2⟩ := hps.bx
    clear hps hd HS HS1 HS2
    by_cases hlt : k < n
    · obtain ⟨b, off, t, hA, hb, ht, c0, c1, c2, c3, c4, c5, c6⟩ := (HT.out.below (hb0.mono hB)).at_ hlt
      obtain ⟨R, hR⟩ : ∃ R, R = (x.ts.drop (k + 1)).flatMap pT ++ T := ⟨_, rfl⟩
      have HD1 := hide (show d ++ (e1 (t.ns.drop 0) ++ R) = F from by rw [← HD.out, hR, drop_cons ht]; simp [pT, Tp.ns])
      have HR := hide hR
      have hto := HOK.out.ts t (List.mem_of_getElem? ht)
      have HTO := hide hto
      have i0 : (0 : Int) ≤ (k : Int) := by omega
      have i1 : (k : Int) < (n : Int) := by omega
      subst hA
      clear hR ht hto hb0
      go_wp2_with fail
      go_loopw [3, 45] (fun o j wq => ∃ (y : Nat) (d2 : List Int), y ≤ 7 ∧ j = .int .i64 y ∧ PS w wq (.slice (some ⟨b, off, none⟩) n c) (.slice A' n' c') (.int .i64 x.u) o d2 ∧ d2 ++ (e1 (t.ns.drop y) ++ R) = F) (fun _ j _ => 7 - (intOf j).toNat)
      case atStart => exact ⟨0, d, by omega, rfl, HPS.out.grow (by go_grown), HD1.out⟩
      case round =>
        obtain ⟨y, d2, hy, rfl, hps2, hd2⟩ := hrel
        have HPS2 := hide hps2
        have HD2 := hide hd2
        clear hps2 hd2 m0 m1 m2
        by_cases h7 : y < 7
        · have hyy : y = 0 ∨ y = 1 ∨ y = 2 ∨ y = 3 ∨ y = 4 ∨ y = 5 ∨ y = 6 := by omega
          rcases hyy with rfl | rfl | rfl | rfl | rfl | rfl | rfl
          · have ix : ∀ W, (Instr.index 106 (.agg #[.int .i64 t.a, .int .i64 t.b, .int .i64 t.c, .int .i64 t.d, .int .i64 t.e, .int .i64 t.f, .int .i64 t.g]) (.int .i64 0)).run Try.prog W = .ok (.int .i64 t.a) W := fun _ => by kernel_rfl
            go_wp2_with (go_at_call 59; refine (ps_num HPS2.out (HLEN.out _ _ HD2.out) _ (HTO.out _ (by simp [Tp.ns]))).mono ?_; rintro e w3 ⟨o3, rfl, hs3, -⟩)
            go_roundw
            case rel => exact ⟨1, _, by omega, by go_num, hs3, by simpa [e1, Tp.ns, List.append_assoc] using HD2.out⟩
            case measure => simp [intOf]
          · have ix : ∀ W, (Instr.index 106 (.agg #[.int .i64 t.a, .int .i64 t.b, .int .i64 t.c, .int .i64 t.d, .int .i64 t.e, .int .i64 t.f, .int .i64 t.g]) (.int .i64 1)).run Try.prog W = .ok (.int .i64 t.b) W := fun _ => by kernel_rfl
            go_wp2_with (go_at_call 59; refine (ps_num HPS2.out (HLEN.out _ _ HD2.out) _ (HTO.out _ (by simp [Tp.ns]))).mono ?_; rintro e w3 ⟨o3, rfl, hs3, -⟩)
            go_roundw
            case rel => exact ⟨2, _, by omega, by go_num, hs3, by simpa [e1, Tp.ns, List.append_assoc] using HD2.out⟩
            case measure => simp [intOf]
          · have ix : ∀ W, (Instr.index 106 (.agg #[.int .i64 t.a, .int .i64 t.b, .int .i64 t.c, .int .i64 t.d, .int .i64 t.e, .int .i64 t.f, .int .i64 t.g]) (.int .i64 2)).run Try.prog W = .ok (.int .i64 t.c) W := fun _ => by kernel_rfl
            go_wp2_with (go_at_call 59; refine (ps_num HPS2.out (HLEN.out _ _ HD2.out) _ (HTO.out _ (by simp [Tp.ns]))).mono ?_; rintro e w3 ⟨o3, rfl, hs3, -⟩)
            go_roundw
            case rel => exact ⟨3, _, by omega, by go_num, hs3, by simpa [e1, Tp.ns, List.append_assoc] using HD2.out⟩
            case measure => simp [intOf]
          · have ix : ∀ W, (Instr.index 106 (.agg #[.int .i64 t.a, .int .i64 t.b, .int .i64 t.c, .int .i64 t.d, .int .i64 t.e, .int .i64 t.f, .int .i64 t.g]) (.int .i64 3)).run Try.prog W = .ok (.int .i64 t.d) W := fun _ => by kernel_rfl
            go_wp2_with (go_at_call 59; refine (ps_num HPS2.out (HLEN.out _ _ HD2.out) _ (HTO.out _ (by simp [Tp.ns]))).mono ?_; rintro e w3 ⟨o3, rfl, hs3, -⟩)
            go_roundw
            case rel => exact ⟨4, _, by omega, by go_num, hs3, by simpa [e1, Tp.ns, List.append_assoc] using HD2.out⟩
            case measure => simp [intOf]
          · have ix : ∀ W, (Instr.index 106 (.agg #[.int .i64 t.a, .int .i64 t.b, .int .i64 t.c, .int .i64 t.d, .int .i64 t.e, .int .i64 t.f, .int .i64 t.g]) (.int .i64 4)).run Try.prog W = .ok (.int .i64 t.e) W := fun _ => by kernel_rfl
            go_wp2_with (go_at_call 59; refine (ps_num HPS2.out (HLEN.out _ _ HD2.out) _ (HTO.out _ (by simp [Tp.ns]))).mono ?_; rintro e w3 ⟨o3, rfl, hs3, -⟩)
            go_roundw
            case rel => exact ⟨5, _, by omega, by go_num, hs3, by simpa [e1, Tp.ns, List.append_assoc] using HD2.out⟩
            case measure => simp [intOf]
          · have ix : ∀ W, (Instr.index 106 (.agg #[.int .i64 t.a, .int .i64 t.b, .int .i64 t.c, .int .i64 t.d, .int .i64 t.e, .int .i64 t.f, .int .i64 t.g]) (.int .i64 5)).run Try.prog W = .ok (.int .i64 t.f) W := fun _ => by kernel_rfl
            go_wp2_with (go_at_call 59; refine (ps_num HPS2.out (HLEN.out _ _ HD2.out) _ (HTO.out _ (by simp [Tp.ns]))).mono ?_; rintro e w3 ⟨o3, rfl, hs3, -⟩)
            go_roundw
            case rel => exact ⟨6, _, by omega, by go_num, hs3, by simpa [e1, Tp.ns, List.append_assoc] using HD2.out⟩
            case measure => simp [intOf]
          · have ix : ∀ W, (Instr.index 106 (.agg #[.int .i64 t.a, .int .i64 t.b, .int .i64 t.c, .int .i64 t.d, .int .i64 t.e, .int .i64 t.f, .int .i64 t.g]) (.int .i64 6)).run Try.prog W = .ok (.int .i64 t.g) W := fun _ => by kernel_rfl
            go_wp2_with (go_at_call 59; refine (ps_num HPS2.out (HLEN.out _ _ HD2.out) _ (HTO.out _ (by simp [Tp.ns]))).mono ?_; rintro e w3 ⟨o3, rfl, hs3, -⟩)
            go_roundw
            case rel => exact ⟨7, _, by omega, by go_num, hs3, by simpa [e1, Tp.ns, List.append_assoc] using HD2.out⟩
            case measure => simp [intOf]
        · obtain rfl : y = 7 := by omega
          go_wp2_with fail
          go_roundw
          case rel => exact ⟨k + 1, d2, by omega, by go_num, HPS2.out, by rw [← HR.out]; simpa [e1, Tp.ns] using HD2.out⟩
          case measure => simp [intOf]; omega
    · obtain rfl : k = n := by omega
      have HD1 := hide (show d ++ put n' ++ (x.ls.drop 0).flatMap pC = F from by
        have h := HD.out
        rw [List.drop_of_length_le (by rw [ln]; exact Nat.le_refl _), ETt.out] at h
        simpa [List.append_assoc] using h)
      go_wp2_with (go_at_call 17; refine (ps_put HPS.out (HLEN.out _ _ HD.out) n' (by omega)).mono ?_; rintro e w2 ⟨o2, rfl, hs2, -⟩; obtain ⟨r0, r1, r2⟩ := hs2.bx; have HS2 := hide hs2)
      clear r0 r1 r2 m0 m1 m2 hs2 hb0 HPS HD
      go_loopw [3, 62] (fun o i wr => ∃ (k' : Nat) (d : List Int), k' ≤ n' ∧ i = .int .i64 k' ∧ PS w wr (.slice A k c) (.slice A' n' c') (.int .i64 x.u) o d ∧ d ++ (x.ls.drop k').flatMap pC = F) (fun _ i _ => n' - (intOf i).toNat)
      case atStart => exact ⟨0, _, Nat.zero_le _, rfl, HS2.out, HD1.out⟩
      case round =>
        obtain ⟨k', d3, hk', rfl, hps, hd⟩ := hrel
        have HPS := hide hps
        have HD := hide hd
        have hb0 := hps.b
        clear hps hd HS2 HD1
        by_cases hlt' : k' < n'
        · obtain ⟨b, off, A2, n2, c2, l, hA, hb, hg, c0, hrd, hl2, -⟩ := (HL.out.below (hb0.mono hB)).at_ hlt'
          obtain ⟨R, hR⟩ : ∃ R, R = (x.ls.drop (k' + 1)).flatMap pC := ⟨_, rfl⟩
          have hd1 : d3 ++ put n2 ++ ((l.drop 0).flatMap pL ++ R) = F := by
            rw [← HD.out, hR, drop_cons hg, ← hl2]; simp [pC, List.append_assoc]
          have h2 : n2 ≤ 900001 := by
            have h3 := flat_long pL pL_pos l
            have h4 := congrArg List.length hd1
            simp only [List.length_append, List.drop_zero] at h4
            omega
          have HD1 := hide hd1
          have HR := hide hR
          have HLO := hide (HOK.out.ls l (List.mem_of_getElem? hg))
          have HRD := hide hrd
          have HL2 := hide hl2
          have ew3 : IntKind.u64.wrap (n2 : Int) = (n2 : Int) := by rw [IntKind.wrap_u64]; omega
          have i0 : (0 : Int) ≤ (k' : Int) := by omega
          have i1 : (k' : Int) < (n' : Int) := by omega
          subst hA
          clear hR hg hb0 hd1 hrd hl2
          go_wp2_with (go_at_call 17; refine (ps_put HPS.out (HLEN.out _ _ HD.out) n2 (by omega)).mono ?_; rintro e w3 ⟨o3, rfl, hs3, hst3⟩; have HS3 := hide hs3; have HB3 := hide (hst3.below HPS.out.own HPS.out.z))
          clear hs3 hst3 c0
          have HRD3 := hide (HRD.out.below (HB3.out.mono (show B ≤ w.heap.size + 1 by omega)))
          go_loopw [3, 73] (fun o j wq => ∃ (y : Nat) (d2 : List Int), y ≤ n2 ∧ j = .int .i64 y ∧ PS w wq (.slice A k c) (.slice (some ⟨b, off, none⟩) n' c') (.int .i64 x.u) o d2 ∧ d2 ++ ((l.drop y).flatMap pL ++ R) = F ∧ Below (w.heap.size + 1) w3 wq) (fun _ j _ => n2 - (intOf j).toNat)
          case atStart => exact ⟨0, _, Nat.zero_le _, rfl, HS3.out, HD1.out, Below.refl _ _⟩
          case round =>
            obtain ⟨y, d2, hy, rfl, hps2, hd2, hbq⟩ := hrel
            have HPS2 := hide hps2
            have HD2 := hide hd2
            have HBQ := hide hbq
            clear hps2 hd2 hbq HPS HD HD1
            by_cases hly : y < n2
            · obtain ⟨b2, off2, g, hA2, hb2, hg, q0, q1, q2, q3⟩ := legs_at (HRD3.out.below (HBQ.out.mono (show B ≤ w.heap.size + 1 by omega))) HL2.out hly
              have j0 : (0 : Int) ≤ (y : Int) := by omega
              have j1 : (y : Int) < (n2 : Int) := by omega
              obtain ⟨ob, hob⟩ : ∃ ob, ob = g.o := ⟨_, rfl⟩
              rw [← hob] at q3
              have hgo := HLO.out g (List.mem_of_getElem? hg)
              have hF0 : d2 ++ put (fold g.t) ++ put (fold g.p) ++ put (fold g.d) ++ put (dn ob) ++ ((l.drop (y + 1)).flatMap pL ++ R) = F := by
                rw [← HD2.out, drop_cons hg, hob]; simp [pL, e1, Lg.ns, List.append_assoc]
              have HL4 := hide (HLEN.out (d2 ++ put (fold g.t) ++ put (fold g.p) ++ put (fold g.d)) (put (dn ob) ++ ((l.drop (y + 1)).flatMap pL ++ R)) (by rw [← hF0]; simp [List.append_assoc]))
              have HL3' := hide (HLEN.out (d2 ++ put (fold g.t) ++ put (fold g.p)) (put (fold g.d) ++ (put (dn ob) ++ ((l.drop (y + 1)).flatMap pL ++ R))) (by rw [← hF0]; simp [List.append_assoc]))
              have HL2' := hide (HLEN.out (d2 ++ put (fold g.t)) (put (fold g.p) ++ (put (fold g.d) ++ (put (dn ob) ++ ((l.drop (y + 1)).flatMap pL ++ R)))) (by rw [← hF0]; simp [List.append_assoc]))
              have HL1' := hide (HLEN.out d2 _ HD2.out)
              have HF0 := hide hF0
              have HGT := hide (show I64 g.t from hgo _ (by simp [Lg.ns]))
              have HGP := hide (show I64 g.p from hgo _ (by simp [Lg.ns]))
              have HGD := hide (show I64 g.d from hgo _ (by simp [Lg.ns]))
              have hne0 : some wr.heap.size ≠ u3.ownBlock := HPS2.out.own.outside (Nat.le_refl _)
              subst hA2
              clear hob hgo hF0 hg
              go_wp2_with fail
              refine letter (w := wr) (fun W => W.cell? ⟨wr.heap.size, 0, none⟩ = some (.int .i64 g.t) ∧ W.cell? ⟨wr.heap.size, 1, none⟩ = some (.int .i64 g.p) ∧ W.cell? ⟨wr.heap.size, 2, none⟩ = some (.int .i64 g.d) ∧ W.cell? ⟨wr.heap.size, 3, none⟩ = some (.bool ob)) (cell4 _ _ _ _ _ _) (by go_grown) (by go_size) ?_
              rintro W5 ⟨f0, f1, f2, f3⟩ hb5 hz5
              clear q0 q1 q2 q3
              have HPS5 := hide (HPS2.out.grow hb5)
              have HB5 := hide (HBQ.out.trans (hb5.mono HPS2.out.z))
              clear hb5
              go_region_held3 (fun W => W.cell? ⟨wr.heap.size, 0, none⟩ = some (.int .i64 g.t) ∧ W.cell? ⟨wr.heap.size, 1, none⟩ = some (.int .i64 g.p) ∧ W.cell? ⟨wr.heap.size, 2, none⟩ = some (.int .i64 g.d) ∧ W.cell? ⟨wr.heap.size, 3, none⟩ = some (.bool ob))
                (first | (exact ⟨f0, f1, f2, f3⟩) | (go_split_ands; exact ⟨hst8.cell ‹_› hne7, hst8.cell ‹_› hne7, hst8.cell ‹_› hne7, hst8.cell ‹_› hne7⟩) | (go_split_ands; exact ⟨hst7.cell ‹_› hne6, hst7.cell ‹_› hne6, hst7.cell ‹_› hne6, hst7.cell ‹_› hne6⟩) | (go_split_ands; exact ⟨hst6.cell ‹_› hne0, hst6.cell ‹_› hne0, hst6.cell ‹_› hne0, hst6.cell ‹_› hne0⟩))
                (first
                  | (go_at_call 59; refine (ps_num (HPS5.out.grow (Below.refl _ _).drew) HL1'.out g.t HGT.out).mono ?_; rintro e w6 ⟨o6, rfl, hs6, hst6⟩; have hne6 := hst6.out hz5 hne0)
                  | (go_at_call 59; refine (ps_num hs6 HL2'.out g.p HGP.out).mono ?_; rintro e w7 ⟨o7, rfl, hs7, hst7⟩; have hne7 := hst7.out (Nat.lt_of_lt_of_le hz5 hst6.g.size) hne6)
                  | (go_at_call 59; refine (ps_num hs7 HL3'.out g.d HGD.out).mono ?_; rintro e w8 ⟨o8, rfl, hs8, hst8⟩))
              have HS8 := hide hs8
              have HB8 := hide (((HB5.out.trans (((Below.refl _ _).drew.mono HPS5.out.z).trans ((HPS5.out.grow (Below.refl _ _).drew).bel hst6))).trans (hs6.bel hst7)).trans (hs7.bel hst8))
              clear hs6 hs7 hs8 hst6 hst7 hst8
              cases ob with
              | false =>
                go_split_ands
                go_wp2_with (go_at_call 17; refine (ps_put0 HS8.out HL4.out).mono ?_; rintro e w9 ⟨o9, rfl, hs9, hst9⟩)
                go_roundw
                case rel => exact ⟨y + 1, _, by omega, by go_num, hs9, HF0.out, HB8.out.trans (HS8.out.bel hst9)⟩
                case measure => simp [intOf]; omega
              | true =>
                go_split_ands
                go_wp2_with (go_at_call 17; refine (ps_put1 HS8.out HL4.out).mono ?_; rintro e w9 ⟨o9, rfl, hs9, hst9⟩)
                go_roundw
                case rel => exact ⟨y + 1, _, by omega, by go_num, hs9, HF0.out, HB8.out.trans (HS8.out.bel hst9)⟩
                case measure => simp [intOf]; omega
            · obtain rfl : y = n2 := by omega
              go_wp2_with fail
              go_roundw
              case rel => exact ⟨k' + 1, d2, by omega, by go_num, HPS2.out, by rw [← HR.out]; have h := HD2.out; rw [List.drop_of_length_le (by rw [HL2.out]; exact Nat.le_refl _)] at h; simpa using h⟩
              case measure => simp [intOf]; omega
        · obtain rfl : k' = n' := by omega
          go_wp2_with fail
          go_ret
          refine ⟨⟨_, rfl, ?_⟩, HPS.out.b⟩
          have h := HD.out
          have hl := HL.out.len
          rw [List.drop_of_length_le (by rw [hl]; exact Nat.le_refl _), List.flatMap_nil, List.append_nil] at h
          rw [← h]
          exact HPS.out.own.small (by omega)
end Go.Proofs.Ytknmpfimnbenjaa
