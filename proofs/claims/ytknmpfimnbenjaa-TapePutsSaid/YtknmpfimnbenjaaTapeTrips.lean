/-
  tape.trips, tape.legs: what a reader reads.
-/
import Derived.Test.YtknmpfimnbenjaaTapeLog
import Derived.Test.YtknmpfimnbenjaaReader2
import Derived.Test.YtknmpfimnbenjaaOwnF
import Derived.Deep.RegionHeld3
namespace Go.Proofs.Ytknmpfimnbenjaa
open Go.RowKit HB PackP TapeP
set_option linter.unusedVariables false
set_option linter.unusedSimpArgs false
/-- a reader in the state s -/
structure Rs (w : World) (p B : Nat) (s : St) : Prop where
  r : Rr w p B s.1 s.2
  i : In s.1
  l : s.1.length ≤ 1000000
theorem St.nx_len (s : St) : (nx s).1.length ≤ s.1.length := nr_len s.1
theorem St.sm_len (s : St) (m : Int) : (sm s m).1.length ≤ s.1.length := by
  simp only [sm, sr]
  split
  · simp
  · exact nr_len s.1
theorem rs_int {w : World} {p B : Nat} {s : St} (h : Rs w p B s) :
    Calls Try.prog 23 #[.pointer (some ⟨p, 0, none⟩)] w fun e w' => e = .returned (.int .i64 (gi s)) ∧ Rs w' p B (nx s) ∧ w.grownBy w' (some p) :=
  (reader_int p B s.1 s.2 w h.r h.i h.l).mono fun e w' ⟨he, hr, hg⟩ => ⟨he, ⟨hr, In.nx h.i, Nat.le_trans (St.nx_len s) h.l⟩, hg⟩
theorem rs_small {w : World} {p B : Nat} {s : St} (h : Rs w p B s) (m : Int) (hm0 : -9223372036854775808 ≤ m) (hm1 : m ≤ 9223372036854775807) :
    Calls Try.prog 54 #[.pointer (some ⟨p, 0, none⟩), .int .i64 m] w fun e w' => e = .returned (.int .i64 (gs s m)) ∧ Rs w' p B (sm s m) ∧ w.grownBy w' (some p) :=
  (reader_small p B s.1 s.2 m w h.r h.i h.l hm0 hm1).mono fun e w' ⟨he, hr, hg⟩ => ⟨he, ⟨hr, In.sm h.i, Nat.le_trans (St.sm_len s m) h.l⟩, hg⟩
theorem rs_bad {w : World} {p B : Nat} {s : St} (h : Rs w p B s) :
    Calls Try.prog 26 #[.pointer (some ⟨p, 0, none⟩)] w fun e w' => e = .returned (.bool s.2) ∧ w = w' := reader_bad p B s.1 s.2 w h.r
theorem rs_left {w : World} {p B : Nat} {s : St} (h : Rs w p B s) :
    Calls Try.prog 25 #[.pointer (some ⟨p, 0, none⟩)] w fun e w' => e = .returned (.int .i64 (lft s)) ∧ w = w' := reader_left p B s.1 s.2 w h.r
theorem Rs.below {w w' : World} {p B D : Nat} {s : St} (h : Rs w p B s) (hb : Below D w w') (hp : p < D) : Rs w' p B s := ⟨h.r.below hb hp, h.i, h.l⟩
theorem Own.grownP {α : Type} {w w' : World} {base : Nat} {e : TypeId} {sz : Nat} {f : α → List Value} {v : Value} {l : List α} {p : Nat} (h : Own w base e sz f v l) (hg : w.grownBy w' (some p)) (hp : p < base) : Own w' base e sz f v l :=
  World.ownsRow.kept h hg (by
    cases hu : v.ownBlock with
    | none => exact .inl rfl
    | some k => exact .inr (fun he => by injection he with he; have := (h.row.lt k hu).1; omega))
/-- writes at blocks from B on only, and at p -/
structure Gp (B p : Nat) (w w' : World) : Prop where
  os : w'.os = w.os
  tape : w'.tape = w.tape
  output : w'.output = w.output
  size : w.heap.size ≤ w'.heap.size
  block : ∀ k, k < B → k ≠ p → w'.heap[k]? = w.heap[k]?
theorem Gp.refl (B p : Nat) (w : World) : Gp B p w w := ⟨rfl, rfl, rfl, Nat.le_refl _, fun _ _ _ => rfl⟩
theorem Gp.below {B p : Nat} {w w1 w2 : World} (h : Gp B p w w1) (hb : Below B w1 w2) : Gp B p w w2 :=
  ⟨hb.os.trans h.os, hb.tape.trans h.tape, hb.output.trans h.output, Nat.le_trans h.size hb.size, fun k hk hne => (hb.block k hk).trans (h.block k hk hne)⟩
theorem Gp.grown {B p : Nat} {w w1 w2 : World} (h : Gp B p w w1) (hg : w1.grownBy w2 (some p)) (hB : B ≤ w1.heap.size) : Gp B p w w2 :=
  ⟨hg.os.trans h.os, hg.tape.trans h.tape, hg.output.trans h.output, Nat.le_trans h.size hg.size, fun k hk hne => (hg.block k (Nat.lt_of_lt_of_le hk hB) (fun he => hne (Option.some.inj he))).trans (h.block k hk hne)⟩
theorem Gp.out {p : Nat} {w w' : World} (h : Gp w.heap.size p w w') : w.grownBy w' (some p) := ⟨h.os, h.tape, h.output, h.size, fun k hk hne => h.block k hk (fun he => hne (by rw [he]))⟩
/-- seven numbers in a block -/
structure A7 (w : World) (q : Nat) (l : List Int) : Prop where
  hq : q < w.heap.size
  len : l.length = 7
  c : ∀ j x, l[j]? = some x → w.cell? ⟨q, j, none⟩ = some (.int .i64 x)
  f : ∀ j, w.frozen? ⟨q, j, none⟩ = false
theorem A7.set {w : World} {q : Nat} {l : List Int} (h : A7 w q l) {j : Nat} (hj : j < 7) (y : Int) : A7 (w.setCell ⟨q, j, none⟩ (.int .i64 y)) q (l.set j y) := by
  refine ⟨Nat.lt_of_lt_of_le h.hq (grown_setCell w q j _).size, by simpa using h.len, fun k x hk => ?_, fun k => by rw [World.frozen?_setCell]; exact h.f k⟩
  have hjl : j < l.length := by rw [h.len]; exact hj
  by_cases e : k = j
  · subst e
    rw [List.getElem?_set_self hjl] at hk
    injection hk with hk
    subst hk
    exact World.cell?_setCell_same w _ _ (h.c k _ (List.getElem?_eq_getElem hjl))
  · rw [List.getElem?_set_ne (fun h => e h.symm)] at hk
    exact (World.cell?_setCell_other w _ _ _ (by intro h; injection h with _ h _; exact e h.symm)).trans (h.c k x hk)
theorem A7.grown {w w' : World} {q : Nat} {l : List Int} {row : Option Nat} (h : A7 w q l) (hg : w.grownBy w' row) (hne : some q ≠ row) : A7 w' q l := by
  have hb := hg.block q h.hq hne
  exact ⟨Nat.lt_of_lt_of_le h.hq hg.size, h.len, fun j x hj => by rw [World.cell?_of_block (w := w) (a := ⟨q, j, none⟩) hb]; exact h.c j x hj, fun j => by rw [World.frozen?_of_block (w := w) (a := ⟨q, j, none⟩) hb]; exact h.f j⟩
theorem A7.new (w : World) (ty : TypeId) : A7 (w.alloc (.cells #[.int .i64 0, .int .i64 0, .int .i64 0, .int .i64 0, .int .i64 0, .int .i64 0, .int .i64 0] ty)) w.heap.size [0, 0, 0, 0, 0, 0, 0] := by
  refine ⟨by simp, rfl, fun j x hj => ?_, fun j => World.frozen?_alloc_at _ _ _ _ rfl⟩
  have hl := (List.getElem?_eq_some_iff.1 hj).1
  have : j = 0 ∨ j = 1 ∨ j = 2 ∨ j = 3 ∨ j = 4 ∨ j = 5 ∨ j = 6 := by simp at hl; omega
  rw [cell_of_row _ w.heap.size j _ ty (0, 0) (heap_alloc_new w _)]
  rcases this with rfl | rfl | rfl | rfl | rfl | rfl | rfl <;> (simp at hj; subst hj; rfl)
theorem Trip.info : (Try.prog.info? 100).map (fun i => (i.zero, i.size, i.bytes)) = some (some (.agg #[.int .i64 0, .int .i64 0, .int .i64 0, .int .i64 0, .int .i64 0, .int .i64 0, .int .i64 0]), 7, 56) := by kernel_rfl
theorem Leg.info : (Try.prog.info? 102).map (fun i => (i.zero, i.size, i.bytes)) = some (some (.agg #[.int .i64 0, .int .i64 0, .int .i64 0, .bool false]), 4, 32) := by kernel_rfl
theorem cells_new (w : World) (e : TypeId) (cs : List Value) (g : Nat) (hg : g = w.heap.size) : ∀ j u, cs[j]? = some u → (w.alloc (.cells cs.toArray e)).cell? ((⟨g, 0, none⟩ : Addr).add j) = some u := by
  subst hg
  intro j u hu
  have key : ∀ j, (w.alloc (.cells cs.toArray e)).cell? ⟨w.heap.size, j, none⟩ = cs[j]? := fun j => by
    rw [cell_of_row _ w.heap.size j cs.toArray e (0, 0) (heap_alloc_new w _)]; simp
  unfold Addr.add
  split
  · rename_i h; subst h; rw [key]; exact hu
  · rw [Nat.zero_add, key]; exact hu
theorem tc_one (t : Tp) : ∀ u ∈ tc t, u.oneCell' = true := by intro u hu; simp [tc] at hu; rcases hu with rfl | rfl | rfl | rfl | rfl | rfl | rfl <;> rfl
theorem lc_one (t : Lg) : ∀ u ∈ lc t, u.oneCell' = true := by intro u hu; simp [lc] at hu; rcases hu with rfl | rfl | rfl | rfl <;> rfl
theorem rTs_yes {m : Nat} {s : St} (h : s.2 = false) : rTs (m + 1) s = (rT s :: (rTs m (nxs 7 s)).1, (rTs m (nxs 7 s)).2) := by
  show (if s.2 = true then _ else _) = _
  rw [h]; rfl
theorem rTs_no {m : Nat} {s : St} (h : s.2 = true) : rTs m s = ([], s) := by
  cases m with
  | zero => rfl
  | succ m => show (if s.2 = true then _ else _) = _; rw [h]; rfl
theorem rLs_yes {m : Nat} {s : St} (h : s.2 = false) : rLs (m + 1) s = (rL s :: (rLs m (nL s)).1, (rLs m (nL s)).2) := by
  show (if s.2 = true then _ else _) = _
  rw [h]; rfl
theorem rLs_no {m : Nat} {s : St} (h : s.2 = true) : rLs m s = ([], s) := by
  cases m with
  | zero => rfl
  | succ m => show (if s.2 = true then _ else _) = _; rw [h]; rfl
theorem nxs_succ (u : Nat) (s : St) : nx (nxs u s) = nxs (u + 1) s := nxs_add u 1 s
abbrev OwnT (w : World) (base : Nat) (v : Value) (l : List Tp) : Prop := Own w base 100 7 tc v l
abbrev OwnL (w : World) (base : Nat) (v : Value) (l : List Lg) : Prop := Own w base 102 4 lc v l
set_option maxRecDepth 100000 in
set_option maxHeartbeats 4000000 in
theorem tape_trips (p B k : Nat) (s : St) (w : World) (h : Rs w p B s) (hk : k ≤ 1000000) :
    Calls Try.prog 57 #[.pointer (some ⟨p, 0, none⟩), .int .i64 k] w fun e w' => (∃ v, e = .returned v ∧ OwnT w' w.heap.size v (rTs k s).1) ∧ Rs w' p B (rTs k s).2 ∧ w.grownBy w' (some p) := by
  have hp := h.r.hp
  have HH := hide h
  clear h
  go_enter Try.func57, Try.ntmps57
  go_wp2_with fail
  go_loopw [5, 6] (fun o i wr => ∃ (j : Nat) (s' : St) (ts' : List Tp), j ≤ k ∧ i = .int .i64 j ∧ OwnT wr w.heap.size o ts' ∧ ts'.length ≤ j ∧ Rs wr p B s' ∧ rTs k s = (ts' ++ (rTs (k - j) s').1, (rTs (k - j) s').2) ∧ Gp w.heap.size p w wr) (fun _ i _ => k - (intOf i).toNat)
  case atStart => exact ⟨0, s, [], Nat.zero_le _, rfl, Own.nil _ _ _ _ _, Nat.le_refl _, HH.out, rfl, Gp.refl _ _ _⟩
  case round =>
    obtain ⟨j, s', ts', hj, rfl, hown, htl, hrs, heq, hgp⟩ := hrel
    have HO := hide hown
    have HR := hide hrs
    have HE := hide heq
    have HG := hide hgp
    have hz := hgp.size
    clear hown hrs heq hgp HH
    have fin_ : rTs (k - j) s' = ([], s') → rTs k s = (ts', s') := fun h => by rw [HE.out, h]; simp
    by_cases hlt : j < k
    · cases hb : s'.2 with
      | true =>
        have HF := hide (fin_ (rTs_no hb))
        clear fin_
        go_wp2_with (go_at_call 26; refine (rs_bad HR.out).mono ?_; rintro e w1 ⟨rfl, rfl⟩; rw [hb])
        go_ret
        rw [HF.out]
        exact ⟨⟨_, rfl, HO.out⟩, HR.out, HG.out.out⟩
      | false =>
        obtain ⟨m, hm⟩ : ∃ m, k - j = m + 1 := ⟨k - j - 1, by omega⟩
        have HE2 := hide (show rTs k s = ((ts' ++ [rT s']) ++ (rTs (k - (j + 1)) (nxs 7 s')).1, (rTs (k - (j + 1)) (nxs 7 s')).2) from by
          rw [HE.out, hm, rTs_yes hb, show k - (j + 1) = m by omega]; simp)
        clear fin_ hm
        obtain ⟨wo, hwo⟩ : ∃ wo, wo = wr := ⟨_, rfl⟩
        have hpo : p < wo.heap.size := by rw [hwo]; exact HR.out.r.hp
        subst hwo
        have HA0 := hide (A7.new wo 106)
        go_wp2_with (go_at_call 26; refine (rs_bad HR.out).mono ?_; rintro e w1 ⟨rfl, rfl⟩; rw [hb])
        have hne : some wo.heap.size ≠ some p := fun he => by injection he with he; omega
        go_loopw [19] (fun i wq => ∃ (u : Nat) (l7 : List Int), u ≤ 7 ∧ i = .int .i64 u ∧ A7 wq wo.heap.size l7 ∧ (∀ a, a < u → l7[a]? = some (gi (nxs a s'))) ∧ Rs wq p B (nxs u s') ∧ Gp wo.heap.size p wo wq) (fun i _ => 7 - (intOf i).toNat)
        case atStart => exact ⟨0, _, by omega, rfl, HA0.out, fun a h => absurd h (by omega), HR.out.below ((Below.refl wo.heap.size wo).alloc (Nat.le_refl _) _) hpo, (Gp.refl _ _ _).below ((Below.refl wo.heap.size wo).alloc (Nat.le_refl _) _)⟩
        case round =>
          obtain ⟨u, l7, hu, rfl, ha7, hl7, hr7, hg7⟩ := hrel
          have HA7 := hide ha7
          have HL7 := hide hl7
          have HR7 := hide hr7
          have HG7 := hide hg7
          clear ha7 hl7 hr7 hg7 HA0
          by_cases h7 : u < 7
          · have i0 : (0 : Int) ≤ (u : Int) := by omega
            have i1 : (u : Int) < 7 := by omega
            have hul : u < l7.length := by rw [HA7.out.len]; exact h7
            obtain ⟨y, hy⟩ : ∃ y, l7[u]? = some y := ⟨_, List.getElem?_eq_getElem hul⟩
            have HY := hide hy
            clear hul hy
            go_wp2_with (go_at_call 23; refine (rs_int HR7.out).mono ?_; rintro e w1 ⟨rfl, hr1, hg1⟩; have a1 := HA7.out.grown hg1 hne; have cu := a1.c u y HY.out; have fu := a1.f u; have HA1 := hide a1; clear a1)
            go_roundw
            case rel =>
              refine ⟨u + 1, l7.set u (gi (nxs u s')), by omega, by go_num, HA1.out.set h7 _, fun a ha => ?_, ?_, ?_⟩
              · by_cases e : a = u
                · subst e; rw [List.getElem?_set_self (by rw [HA7.out.len]; exact h7)]
                · rw [List.getElem?_set_ne (fun h => e h.symm)]; exact HL7.out a (by omega)
              · rw [← nxs_succ]; exact hr1.below ((Below.refl wo.heap.size w1).setCell (Nat.le_refl _) _) hpo
              · exact (HG7.out.grown hg1 HG7.out.size).below ((Below.refl wo.heap.size w1).setCell (Nat.le_refl _) _)
            case measure => simp [intOf]; omega
          · obtain rfl : u = 7 := by omega
            have c0 : wr.cell? ⟨wo.heap.size, 0, none⟩ = some (.int .i64 (gi s')) := HA7.out.c 0 _ (HL7.out 0 (by omega))
            have c1 := HA7.out.c 1 _ (HL7.out 1 (by omega))
            have c2 := HA7.out.c 2 _ (HL7.out 2 (by omega))
            have c3 := HA7.out.c 3 _ (HL7.out 3 (by omega))
            have c4 := HA7.out.c 4 _ (HL7.out 4 (by omega))
            have c5 := HA7.out.c 5 _ (HL7.out 5 (by omega))
            have c6 := HA7.out.c 6 _ (HL7.out 6 (by omega))
            have HO7 := hide (Own.grownP HO.out HG7.out.out hp)
            have HGW := hide (HG.out.grown HG7.out.out hz)
            have hz7 := HGW.out.size
            go_wp2_with (at_builtin; refine push rfl _ _ 54 rfl Try.underlying54 Trip.info rfl (by omega) (by omega) rfl (HO7.out.alloc _) (rT s') ⟨_, 0, none⟩ 1 rfl rfl (cells_new _ _ (tc (rT s')) _ rfl) (tc_one _) (by omega) (by go_size) ?_; intro v8 w8 hown8 hb8)
            have hb9 := ((Below.refl w.heap.size wr).alloc hz7 _).trans hb8
            go_roundw
            case rel => exact ⟨j + 1, nxs 7 s', ts' ++ [rT s'], by omega, by go_num, hown8, by simp; omega, HR7.out.below hb9 hp, HE2.out, HGW.out.below hb9⟩
            case measure => simp [intOf]; omega
    · obtain rfl : j = k := by omega
      have HF := hide (fin_ (by rw [Nat.sub_self]; rfl))
      go_wp2_with fail
      go_ret
      rw [HF.out]
      exact ⟨⟨_, rfl, HO.out⟩, HR.out, HG.out.out⟩
end Go.Proofs.Ytknmpfimnbenjaa
