/-
  The calendar: a new one; the walks of the law's alive, find, without.
-/
import Derived.Test.YtknmpfimnbenjaaCalD
import Derived.Deep.AppendLies
import Derived.BigQuiet
import Derived.Deep.QuietTactic
namespace Go.Proofs.Ytknmpfimnbenjaa
open Go.RowKit HB HeapP Go.Maps CalP
set_option linter.unusedVariables false
set_option linter.unusedSimpArgs false
namespace CalP
abbrev CO : Obj := .cells #[.slice none 0 0, .map none] 88
theorem Cs.fresh (w : World) : Cs (w.alloc CO) w.heap.size w.heap.size none 0 [] [] := by
  have key : ∀ j, (w.alloc CO).cell? ⟨w.heap.size, j, none⟩ = [Value.slice none 0 0, .map none][j]? := fun j => by
    rw [cell_of_row _ w.heap.size j #[.slice none 0 0, .map none] _ (0, 0) (heap_alloc_new w _)]; simp
  have kf : ∀ j, (w.alloc CO).frozen? ⟨w.heap.size, j, none⟩ = false := fun j => by
    unfold World.frozen?; rw [heap_alloc_new w _]; simp
  exact ⟨⟨.slice none 0 0, key 0, kf 0, by simp, Own.nil _ _ _ _ _, .inl ⟨rfl, rfl, rfl⟩⟩, key 1, kf 1, ⟨by intro i x; unfold ok; simp, by simp [Srt], by simp, by simp, by simp⟩, .inl ⟨rfl, rfl⟩, fun b hb => (by cases hb)⟩
theorem Xb.ge {p g B : Nat} {m : Option Nat} (h1 : B ≤ p) (h2 : B ≤ g) (h3 : ∀ b, m = some b → B ≤ b) : ∀ k, Xb p g m k → B ≤ k := by
  rintro k (rfl | rfl | h)
  · exact h1
  · exact h2
  · exact h3 k h
end CalP
set_option maxRecDepth 100000 in
set_option maxHeartbeats 4000000 in
theorem cal_alive (w : World) :
    Calls Try.prog 49 #[] w fun e w' => e = .returned (.bool true) ∧ Below w.heap.size w w' := by
  have HC0 := hide (Cs.fresh w)
  have HB0 := hide ((Below.refl w.heap.size w).alloc (Nat.le_refl _) CO)
  have HS0 := hide (cal_set w.heap.size w.heap.size 0 0 none [] [] ⟨9, 1, 0⟩ _ (Cs.fresh w) rfl (by omega) (by omega) ⟨by unfold inI; decide, by unfold inI; decide, by unfold inI; decide⟩)
  have hz0 := HB0.out.size
  go_enter Try.func49, Try.ntmps49
  go_upto_region 3 with (go_at_call 72; refine (HS0.out).mono ?_; rintro e w1 ⟨rfl, g1, b1, n1, L1, hc1, hl1, hn1, hb1, hx1⟩)
  have HC1 := hide (hc1 [⟨9, 1, 0⟩] (by simp [Srt]) (by simp [wo]))
  have hge1 : ∀ k, Xb w.heap.size g1 (some b1) k → w.heap.size ≤ k := fun k hk => by
    by_cases hlt : k < (w.alloc CO).heap.size
    · exact Xb.ge (m := none) (Nat.le_refl _) (Nat.le_refl _) (fun b hb => by cases hb) k (hx1 k hlt hk)
    · omega
  have HG1 := hide hge1
  have HB1 := hide (HB0.out.trans (hb1.below (Xb.ge (Nat.le_refl _) (Nat.le_refl _) (fun b hb => (by cases hb))) hz0))
  have HS1 := hide (cal_set w.heap.size g1 n1 L1.length (some b1) L1 [⟨9, 1, 0⟩] ⟨5, 1, 0⟩ w1 HC1.out rfl (by simp at hl1; omega) (by omega) ⟨by unfold inI; decide, by unfold inI; decide, by unfold inI; decide⟩)
  have HL1 := hide hl1
  clear hc1 hl1 hb1 hx1 hge1 HS0
  go_upto_region 4 with (go_at_call 72; refine (HS1.out).mono ?_; rintro e w2 ⟨rfl, g2, b2, n2, L2, hc2, hl2, hn2, hb2, hx2⟩)
  have HC2 := hide (hc2 [⟨5, 1, 0⟩] (by simp [Srt]) (by simp [wo, isK]))
  have HG2 := hide (fun k (hk : Xb w.heap.size g2 (some b2) k) => (show w.heap.size ≤ k from by
    by_cases hlt : k < w1.heap.size
    · exact HG1.out k (hx2 k hlt hk)
    · have := HB1.out.size; omega))
  have HB2 := hide (HB1.out.trans (hb2.below HG1.out HB1.out.size))
  have HPO := hide (cal_pop w.heap.size g2 n2 L2.length (some b2) L2 [⟨5, 1, 0⟩] w2 HC2.out rfl (by have := HL1.out; simp at this; omega))
  clear hc2 hl2 hb2 hx2 HS1
  go_wp2_with (first
    | (go_at_call 69; refine (HPO.out).mono ?_; rintro e w3 ⟨he3, L3, hc3, hl3, hb3⟩; have he3' : e = .returned (.tuple #[.agg #[.int .i64 5, .int .i64 1, .int .i64 0], .bool true]) := he3; clear he3; subst he3'; have HC3 := hide hc3; have HB3 := hide (HB2.out.trans (hb3.below HG2.out HB2.out.size)); clear hc3 hl3 hb3)
    | (go_at_call 47; refine (cal_len _ _ _ _ _ _ _ (HC3.out.below ((Below.refl _ _).alloc (Nat.le_refl _) _))).mono ?_; rintro e w4 ⟨rfl, rfl⟩))
  go_ret
  exact ⟨rfl, HB3.out.alloc HB3.out.size _⟩
/-- the place of a thing; below 0: none -/
def FoundP (l : List En) (e : En) (r : Int) : Prop := (∃ (q : Nat) (x : En), r = q ∧ l[q]? = some x ∧ x.k = e.k ∧ x.i = e.i) ∨ (r = -1 ∧ ∀ x ∈ l, ¬ (x.k = e.k ∧ x.i = e.i))
set_option maxRecDepth 100000 in
set_option maxHeartbeats 4000000 in
theorem cal_find (A : Option Addr) (n c B : Nat) (l : List En) (a : En) (w : World) (hr : Rd w B 3 A n (l.flatMap ent)) (hB : B ≤ w.heap.size) (hl : l.length = n) (hn : n ≤ 1000000) :
    Calls Try.prog 66 #[.slice A n c, .agg #[.int .i64 a.t, .int .i64 a.k, .int .i64 a.i]] w fun e w' => (∃ r, e = .returned (.int .i64 r) ∧ FoundP l a r) ∧ Below w.heap.size w w' := by
  have Hl := hide hl
  have HR := hide hr
  clear hl hr
  go_enter Try.func66, Try.ntmps66
  go_wp2_with fail
  have HB0 := hide ((Below.refl w.heap.size w).alloc (Nat.le_refl _) (.cells #[.int .i64 a.t, .int .i64 a.k, .int .i64 a.i] 70))
  have HT := hide (Trio.new w 70 (.int .i64 a.t) (.int .i64 a.k) (.int .i64 a.i))
  generalize w.alloc (.cells #[.int .i64 a.t, .int .i64 a.k, .int .i64 a.i] 70) = w0 at *
  go_loopw [5] (fun si wr => ∃ k : Nat, si = .int .i64 k ∧ k ≤ n ∧ (∀ j x, j < k → l[j]? = some x → ¬ (x.k = a.k ∧ x.i = a.i)) ∧ Below w0.heap.size w0 wr) (fun si _ => n - (intOf si).toNat)
  case atStart => exact ⟨0, rfl, Nat.zero_le _, fun j x hj => absurd hj (Nat.not_lt_zero _), Below.refl _ _⟩
  case round =>
    obtain ⟨k, rfl, hk, hd, hbel⟩ := hrel
    have HD := hide hd
    have HT2 := hide (HT.out.below hbel)
    have hb0 := (HB0.out).trans (hbel.mono HB0.out.size)
    have HB2 := hide hb0
    have HBX := hide hbel
    have HR2 := hide (HR.out.below (hb0.mono hB))
    clear hd hbel hb0
    obtain ⟨r0, r1, r2, f0, f1, f2, hr0⟩ := HT2.out
    by_cases hlt : k < n
    · obtain ⟨b, off, x, rfl, hb, hg, x0, x1, x2⟩ := HR2.out.ent_at Hl.out hlt
      have HG := hide hg
      have i0 : (0 : Int) ≤ (k : Int) := by omega
      have i1 : (k : Int) < (n : Int) := by omega
      have hnext : ¬ (x.k = a.k ∧ x.i = a.i) → ∀ j y, j < k + 1 → l[j]? = some y → ¬ (y.k = a.k ∧ y.i = a.i) := fun h j y hj hy => by
        rcases Nat.lt_succ_iff_lt_or_eq.1 hj with hj | rfl
        · exact HD.out j y hj hy
        · rw [HG.out] at hy; injection hy with hy; rw [← hy]; exact h
      have HN := hide hnext
      clear hg hnext
      by_cases hk1 : x.k = a.k
      · have hd1 : (x.k == a.k) = true := by simpa using hk1
        by_cases hk2 : x.i = a.i
        · have hd2 : (x.i == a.i) = true := by simpa using hk2
          have HQ := hide (show FoundP l a k from .inl ⟨k, x, rfl, HG.out, hk1, hk2⟩)
          clear hk1 hk2
          go_wp2_with fail
          go_quiet (fail)
          go_wp2_with fail
          go_ret
          exact ⟨⟨k, rfl, HQ.out⟩, below_drewN HB2.out _⟩
        · have hd2 : (x.i == a.i) = false := by simpa using hk2
          have HN2 := hide (HN.out (fun h => hk2 h.2))
          clear hk1 hk2
          go_wp2_with fail
          go_quiet (fail)
          go_wp2_with fail
          go_roundw
          case rel => exact ⟨k + 1, by go_num, by omega, HN2.out, below_drewN HBX.out _⟩
          case measure => simp [intOf]; omega
      · have hd1 : (x.k == a.k) = false := by simpa using hk1
        have HN2 := hide (HN.out (fun h => hk1 h.1))
        clear hk1
        go_wp2_with fail
        go_quiet (fail)
        go_wp2_with fail
        go_roundw
        case rel => exact ⟨k + 1, by go_num, by omega, HN2.out, below_drewN HBX.out _⟩
        case measure => simp [intOf]; omega
    · obtain rfl : k = n := by omega
      go_wp2_with fail
      go_ret
      refine ⟨⟨-1, rfl, .inr ⟨rfl, fun x hx => ?_⟩⟩, HB2.out⟩
      obtain ⟨j, hj⟩ := List.mem_iff_getElem?.1 hx
      exact HD.out j x (by have := (List.getElem?_eq_some_iff.1 hj).1; rw [Hl.out] at this; exact this) hj
namespace HB
section
variable {P : Program} {α : Type} {w : World} {base : Nat} {e : TypeId} {sz : Nat} {f : α → List Value} {v : Value} {l : List α}
theorem run_push_all (ty t : TypeId) {z : Value} {bytes : Nat} (ht : P.underlying t = some (.slice e)) (hinfo : (P.info? e).map (fun i => (i.zero, i.size, i.bytes)) = some (some z, sz, bytes)) (hzs : z.cells.size = sz) (hsz : 0 < sz) (hby : bytes ≤ 1000)
    (hown : Own w base e sz f v l) (ys : List α) (B : Nat) (A : Option Addr) (m c : Nat) (hm : ys.length = m)
    (hr : Rd w B sz A m (ys.flatMap f)) (h1 : ∀ u ∈ ys.flatMap f, u.oneCell' = true) (hn : l.length ≤ 1000000000) (hm1 : m ≤ 1000000000) (hbase : base ≤ w.heap.size) :
    ∃ v' w', (Builtin.append_ #[t, t] ty #[v, .slice A m c]).run P w = .ok v' w' ∧ Own w' base e sz f v' (l ++ ys) ∧ Below base w w' := by
  obtain ⟨i, hi, hz, hzz, hbb⟩ := info_parts hinfo
  subst hm
  rcases A with _ | ad
  · have hm0 : ys = [] := by
      rcases Nat.eq_zero_or_pos ys.length with h0 | h0
      · exact List.eq_nil_of_length_eq_zero h0
      · obtain ⟨b, off, hA, _⟩ := hr.2 h0
        cases hA
    subst hm0
    refine ⟨v, w, ?_, by simpa using hown, Below.refl _ _⟩
    rcases hown.2 with ⟨hv, h0⟩ | ⟨g, cap, cur, hv, _, _, hnc, _⟩
    · rw [hv]; simp [Builtin.append_, run_underlying ht, sizeOf, typeInfo, hi, Builtin.lenOf, Builtin.firstCells]
    · rw [hv]; simp [Builtin.append_, run_underlying ht, sizeOf, typeInfo, hi, Builtin.lenOf, Builtin.firstCells, hnc, storeCells]
  · have hcells : ∀ j u, (ys.flatMap f)[j]? = some u → w.cell? (ad.add j) = some u := by
      intro j u hu
      rcases Nat.eq_zero_or_pos ys.length with h0 | h0
      · have : ys = [] := List.eq_nil_of_length_eq_zero h0
        subst this; simp at hu
      · obtain ⟨b, off, hA, _, hc⟩ := hr.2 h0
        injection hA with hA
        subst hA
        have := hc j u hu
        unfold Addr.add
        split
        · rename_i hj; subst hj; exact this
        · exact this
    obtain ⟨v', w', hrun, k1, k2, -⟩ := run_append_own_at (P := P) w base t ty e i z sz bytes ht hi hz hzz hbb hzs hsz v l.length (l.flatMap f) hown.row ad ys.length c (ys.flatMap f) hr.1 hcells h1 (by simp only [maxLen]; omega) (Nat.le_trans (Nat.mul_le_mul_left _ hby) (by omega)) hbase
    refine ⟨v', w', hrun, ?_, (Below.refl base w).grown k2 hbase (fun k hk => (hown.row.lt k hk).1)⟩
    show w'.ownsRow base e sz _ (l ++ ys).length ((l ++ ys).flatMap f)
    rw [List.length_append, List.flatMap_append]
    exact k1
/-- at a step of a region that draws its order -/
theorem pushAllK {ops : Array Oper} {o : Oper} {a : Act} {K : Act → World → Prop} {Q : Exit → Act → World → Prop} {E : Prop} (hgd : o.guard = none) (s x : Operand) (t : TypeId)
    (ho : o.op = .call { callee := .builtin .append, args := #[s, x], argTypes := #[t, t] })
    {z : Value} {bytes : Nat} (ht : P.underlying t = some (.slice e)) (hinfo : (P.info? e).map (fun i => (i.zero, i.size, i.bytes)) = some (some z, sz, bytes)) (hzs : z.cells.size = sz) (hsz : 0 < sz) (hby : bytes ≤ 1000)
    (hs : a.eval s = v) (hown : Own w base e sz f v l) (ys : List α) (B : Nat) (A : Option Addr) (m c : Nat) (hx : a.eval x = .slice A m c) (hm : ys.length = m)
    (hr : Rd w B sz A m (ys.flatMap f)) (h1 : ∀ u ∈ ys.flatMap f, u.oneCell' = true)
    (hn : l.length ≤ 1000000000) (hm1 : m ≤ 1000000000) (hbase : base ≤ w.heap.size)
    (h : ∀ v' w', Own w' base e sz f v' (l ++ ys) → Below base w w' → K (a.put o.dst v') w') : if Region.wanted o (yielded ops a.tmps) = true then Oper.wp P o a w K Q else E := by
  have hw : Region.wanted o (yielded ops a.tmps) = true := by simp [Region.wanted, hgd]
  rw [if_pos hw]
  obtain ⟨v', w', hr', h2, h3⟩ := run_push_all (P := P) o.type t ht hinfo hzs hsz hby hown ys B A m c hm hr h1 hn hm1 hbase
  unfold Oper.wp execOp
  simp only [ho, resolve, invoke, builtin, Sem.run_bind, Sem.run_pure, Result.andThen_ok, List.map_toArray, List.map_cons, List.map_nil, hs, hx, hr']
  exact h v' w' h2 h3
end
end HB
def WithoutP (l : List En) (q : Nat) (w : World) (e : Ending) (w' : World) : Prop :=
  (∃ v, e = .returned v ∧ Own w' w.heap.size 70 3 ent v (l.take q ++ l.drop (q + 1))) ∧ Below w.heap.size w w'
set_option maxRecDepth 100000 in
set_option maxHeartbeats 4000000 in
theorem cal_without_no (A : Option Addr) (n c : Nat) (w : World) :
    Calls Try.prog 67 #[.slice A n c, .int .i64 (-1)] w fun e w' => e = .returned (.slice A n c) ∧ w' = w := by
  go_enter Try.func67, Try.ntmps67
  go_wp2_with fail
  go_ret
  exact ⟨rfl, rfl⟩
set_option maxRecDepth 100000 in
set_option maxHeartbeats 4000000 in
theorem cal_without (A : Option Addr) (n c B q : Nat) (l : List En) (w : World) (hr : Rd w B 3 A n (l.flatMap ent)) (hB : B ≤ w.heap.size) (hl : l.length = n) (hc : n ≤ c) (hn : n ≤ 1000000) (hq : q < n) :
    Calls Try.prog 67 #[.slice A n c, .int .i64 (q : Int)] w (WithoutP l q w) := by
  have Hl := hide hl
  have HR := hide hr
  obtain ⟨b, off, rfl, hb, -⟩ := hr.2 (show 0 < n by omega)
  have hfr := hr.front (show q ≤ n by omega)
  rw [flat_take ent_len] at hfr
  have HFR := hide hfr
  have HLT := hide (show (l.take q).length = q by rw [List.length_take, hl]; omega)
  have HLD := hide (show (l.drop (q + 1)).length = n - (q + 1) by rw [List.length_drop, hl])
  have hcu := hr.cut (show q + 1 ≤ n by omega) hc
  rw [flat_drop ent_len] at hcu
  have i0 : (0 : Int) ≤ (q : Int) := by omega
  have i1 : (q : Int) ≤ (c : Int) := by omega
  have i2 : (0 : Int) ≤ (q : Int) + 1 := by omega
  have i3 : (q : Int) + 1 ≤ (n : Int) := by omega
  have i4 : (n : Int) ≤ (c : Int) := by omega
  have i5 : IntKind.i64.wrap ((q : Int) + 1) = (q : Int) + 1 := IntWalk.i64_in _ (by omega)
  have i6 : ¬ (q : Int) < 0 := by omega
  clear hl hr hfr
  by_cases hck : c = q + 1
  · rw [if_pos hck] at hcu
    obtain rfl : n = q + 1 := by omega
    subst hck
    rw [Nat.sub_self] at hcu
    have HCU := hide hcu
    have hld := HLD.out
    rw [Nat.sub_self] at hld
    have HLD := hide hld
    clear hcu hld
    have j1 : (q : Int) ≤ (q : Int) + 1 := by omega
    have j2 : q ≤ q + 1 := by omega
    go_enter Try.func67, Try.ntmps67
    go_wp2_with fail
    go_region_law (first
      | (refine pushAllK rfl _ _ 64 rfl Try.underlying64 Ent.info rfl (by omega) (by omega) rfl (Own.block (base := w.heap.size) (f := ent) (sz := 3) w 70 #[] [] (Nat.le_refl _) rfl (fun _ => rfl) (Nat.zero_le _)).drew (l.take q) B _ q _ rfl HLT.out (HFR.out.below ((Below.refl B w).alloc hB _).drew) (ent_ones _) (Nat.zero_le _) (by omega) (by simp) ?_; intro v6 w6 hown6 hb6; have HO6 := hide hown6; have HB6 := hide (((Below.refl w.heap.size w).alloc (Nat.le_refl _) (.cells #[] 70)).drew.trans hb6); clear hown6 hb6)
      | (refine pushAllK rfl _ _ 64 rfl Try.underlying64 Ent.info rfl (by omega) (by omega) rfl HO6.out (l.drop (q + 1)) B _ 0 _ rfl HLD.out (HCU.out.below (HB6.out.mono hB)) (ent_ones _) (by simp [HLT.out]; omega) (by omega) HB6.out.size ?_; intro v7 w7 hown7 hb7; have HO7 := hide hown7; have HB7 := hide (HB6.out.trans hb7); clear hown7 hb7))
    go_wp2_with fail
    go_ret
    exact ⟨⟨_, rfl, by have := HO7.out; rwa [List.nil_append] at this⟩, HB7.out⟩
  · rw [if_neg hck] at hcu
    have hadd : (⟨b, off, none⟩ : Addr).add ((q + 1) * 3) = ⟨b, off + (q + 1) * 3, none⟩ := by
      unfold Addr.add
      split
      · rename_i h; rw [h]; rfl
      · rfl
    simp only [Option.map_some, hadd] at hcu
    have HCU := hide hcu
    clear hcu hadd
    go_enter Try.func67, Try.ntmps67
    go_wp2_with fail
    go_region_law (first
      | (refine pushAllK rfl _ _ 64 rfl Try.underlying64 Ent.info rfl (by omega) (by omega) rfl (Own.block (base := w.heap.size) (f := ent) (sz := 3) w 70 #[] [] (Nat.le_refl _) rfl (fun _ => rfl) (Nat.zero_le _)).drew (l.take q) B _ q _ rfl HLT.out (HFR.out.below ((Below.refl B w).alloc hB _).drew) (ent_ones _) (Nat.zero_le _) (by omega) (by simp) ?_; intro v6 w6 hown6 hb6; have HO6 := hide hown6; have HB6 := hide (((Below.refl w.heap.size w).alloc (Nat.le_refl _) (.cells #[] 70)).drew.trans hb6); clear hown6 hb6)
      | (refine pushAllK rfl _ _ 64 rfl Try.underlying64 Ent.info rfl (by omega) (by omega) rfl HO6.out (l.drop (q + 1)) B _ (n - (q + 1)) _ rfl HLD.out (HCU.out.below (HB6.out.mono hB)) (ent_ones _) (by simp [HLT.out]; omega) (by omega) HB6.out.size ?_; intro v7 w7 hown7 hb7; have HO7 := hide hown7; have HB7 := hide (HB6.out.trans hb7); clear hown7 hb7))
    go_wp2_with fail
    go_ret
    exact ⟨⟨_, rfl, by have := HO7.out; rwa [List.nil_append] at this⟩, HB7.out⟩
end Go.Proofs.Ytknmpfimnbenjaa
