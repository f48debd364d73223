/-
  The walk of heap.Sorted.
-/
import Derived.Test.YtknmpfimnbenjaaHeapMake
namespace Go.Proofs.Ytknmpfimnbenjaa
open Go.RowKit HB HeapP
set_option linter.unusedVariables false
set_option linter.unusedSimpArgs false
namespace HB
theorem Hp.pl {w : World} {p g : Nat} {L : List En} (h : Hp w p g L) : p < w.heap.size := by obtain ⟨_, _, _, h3, _⟩ := h; exact h3
theorem Hp.grown {w w' : World} {p g : Nat} {L : List En} {row : Option Nat} (h : Hp w p g L) (hg : w.grownBy w' row) (h1 : some p ≠ row) (h2 : some g ≠ row) : Hp w' p g L :=
  h.kept hg.size (hg.block p (by obtain ⟨_, _, _, h3, _⟩ := h; exact h3) h1) (hg.block g h.gl h2)
theorem Trio.grown {w w' : World} {r : Nat} {x y z : Value} {row : Option Nat} (h : Trio w r x y z) (hg : w.grownBy w' row) (h1 : some r ≠ row) : Trio w' r x y z := by
  have hb := hg.block r h.lt h1
  have hc : ∀ j, w'.cell? ⟨r, j, none⟩ = w.cell? ⟨r, j, none⟩ := fun j => World.cell?_of_block (a := ⟨r, j, none⟩) hb
  have hf : ∀ j, w'.frozen? ⟨r, j, none⟩ = w.frozen? ⟨r, j, none⟩ := fun j => World.frozen?_of_block (a := ⟨r, j, none⟩) hb
  exact ⟨(hc 0).trans h.c0, (hc 1).trans h.c1, (hc 2).trans h.c2, (hf 0).trans h.f0, (hf 1).trans h.f1, (hf 2).trans h.f2, Nat.lt_of_lt_of_le h.lt hg.size⟩
theorem Own.only {α : Type} {f : α → List Value} {base sz p g : Nat} {e : TypeId} {v : Value} {l : List α} {w w' : World} (h : Own w base e sz f v l) (ho : Only p g w w') (h1 : ∀ k, v.ownBlock = some k → k ≠ p ∧ k ≠ g) : Own w' base e sz f v l := by
  refine h.other fun b n c hv => ?_
  subst hv
  have := h1 b rfl
  exact ho.block b (h.row.lt b rfl).2 this.1 this.2
/-- 'out = append(out, x)': where the new row lies, too -/
theorem pushG {P : Program} {α : Type} {w : World} {base : Nat} {e : TypeId} {sz : Nat} {f : α → List Value} {v : Value} {l : List α} {ops : Array Oper} {rest : List Oper} {o : Oper} {a : Act} {Q : Exit → Act → World → Prop} (hgd : o.guard = none) (s x : Operand) (t : TypeId)
    (ho : o.op = .call { callee := .builtin .append, args := #[s, x], argTypes := #[t, t] })
    {z : Value} {bytes : Nat} (ht : P.underlying t = some (.slice e)) (hinfo : (P.info? e).map (fun i => (i.zero, i.size, i.bytes)) = some (some z, sz, bytes)) (hzs : z.cells.size = sz) (hsz : 0 < sz) (hby : bytes ≤ 1000)
    (hs : a.eval s = v) (hown : Own w base e sz f v l) (y : α) (ad : Addr) (c : Nat) (hx : a.eval x = .slice (some ad) 1 c) (hl : (f y).length = sz)
    (hc : ∀ j u, (f y)[j]? = some u → w.cell? (ad.add j) = some u) (h1 : ∀ u ∈ f y, u.oneCell' = true)
    (hn : l.length ≤ 1000000000) (hbase : base ≤ w.heap.size)
    (h : ∀ g cap w', Own w' base e sz f (.slice (some ⟨g, 0, none⟩) (l.length + 1) cap) (l ++ [y]) → w.grownBy w' v.ownBlock → (v.ownBlock = some g ∨ g = w.heap.size) → g < w'.heap.size → wpList P ops Q rest (a.put o.dst (.slice (some ⟨g, 0, none⟩) (l.length + 1) cap)) w') : wpList P ops Q (o :: rest) a w := by
  obtain ⟨i, hi, hz, hzz, hbb⟩ := info_parts hinfo
  refine wpList_append_lies w hgd s x t ho base e i z sz bytes ht hi hz hzz hbb hzs hsz v l.length (l.flatMap f) hs hown.row ad 1 c (f y) hx (by rw [hl, Nat.one_mul]) hc h1 (by omega) (by simp only [maxLen]; omega)
    (Nat.le_trans (Nat.mul_le_mul_left _ hby) (by omega)) hbase _ rfl (fun g cap w' k1 k2 k3 k4 => h g cap w' ?_ k2 k3 k4)
  show w'.ownsRow base e sz _ (l ++ [y]).length ((l ++ [y]).flatMap f)
  simpa using k1
end HB
namespace HB
theorem grown_set3 (w : World) (q : Nat) (x y z : Value) : w.grownBy (((w.setCell ⟨q, 0, none⟩ x).setCell ⟨q, 1, none⟩ y).setCell ⟨q, 2, none⟩ z) (some q) :=
  ⟨rfl, rfl, rfl, by simp, fun k _ hk => by
    have hne : k ≠ q := fun h => hk (by rw [h])
    rw [Below.heap_setCell _ _ _ _ hne, Below.heap_setCell _ _ _ _ hne, Below.heap_setCell _ _ _ _ hne]⟩
theorem Trio.stored {w : World} {q : Nat} {a b c : Value} (h : Trio w q a b c) (x y z : Value) : Trio (((w.setCell ⟨q, 0, none⟩ x).setCell ⟨q, 1, none⟩ y).setCell ⟨q, 2, none⟩ z) q x y z := by
  have n01 : (⟨q, 0, none⟩ : Addr) ≠ ⟨q, 1, none⟩ := by intro e; injection e with _ e _; cases e
  have n02 : (⟨q, 0, none⟩ : Addr) ≠ ⟨q, 2, none⟩ := by intro e; injection e with _ e _; cases e
  have n12 : (⟨q, 1, none⟩ : Addr) ≠ ⟨q, 2, none⟩ := by intro e; injection e with _ e _; cases e
  have a0 := World.cell?_setCell_same w _ x h.c0
  have a1 : (w.setCell ⟨q, 0, none⟩ x).cell? ⟨q, 1, none⟩ = some b := (World.cell?_setCell_other w _ _ _ n01).trans h.c1
  have a2 : (w.setCell ⟨q, 0, none⟩ x).cell? ⟨q, 2, none⟩ = some c := (World.cell?_setCell_other w _ _ _ n02).trans h.c2
  have b0 := (World.cell?_setCell_other (w.setCell ⟨q, 0, none⟩ x) ⟨q, 1, none⟩ ⟨q, 0, none⟩ y n01.symm).trans a0
  have b1 := World.cell?_setCell_same (w.setCell ⟨q, 0, none⟩ x) _ y a1
  have b2 := (World.cell?_setCell_other (w.setCell ⟨q, 0, none⟩ x) ⟨q, 1, none⟩ ⟨q, 2, none⟩ y n12).trans a2
  refine ⟨(World.cell?_setCell_other _ ⟨q, 2, none⟩ ⟨q, 0, none⟩ z n02.symm).trans b0, (World.cell?_setCell_other _ ⟨q, 2, none⟩ ⟨q, 1, none⟩ z n12.symm).trans b1, World.cell?_setCell_same _ _ z b2, ?_, ?_, ?_, by simpa using h.lt⟩
  · simp only [World.frozen?_setCell]; exact h.f0
  · simp only [World.frozen?_setCell]; exact h.f1
  · simp only [World.frozen?_setCell]; exact h.f2
theorem Own.grown {α : Type} {f : α → List Value} {base sz : Nat} {e : TypeId} {v : Value} {l : List α} {w w' : World} {row : Option Nat} (h : Own w base e sz f v l) (hg : w.grownBy w' row) (hne : v.ownBlock = none ∨ v.ownBlock ≠ row) : Own w' base e sz f v l := World.ownsRow.kept h hg hne
end HB
namespace HeapP
theorem Popped.first {l L1 L2 : List En} (hm : L1.Perm l) (hh : IsHeap L1) (h0 : L1.length = 0 → L2 = []) (h1 : 0 < L1.length → L1.Perm (top L1 :: L2)) : Popped l [] (decide (0 < L1.length)) (top L1) L2 := by
  rcases Nat.eq_zero_or_pos L1.length with hz | hz
  · have hL : L1 = [] := List.eq_nil_of_length_eq_zero hz
    have hd : decide (0 < L1.length) = false := by simp; exact hL
    rw [hd, h0 hz]
    subst hL
    exact ⟨by simp [Srt], by simp, by simpa using hm.symm, fun _ => rfl⟩
  · have hd : decide (0 < L1.length) = true := by simpa using hz
    have hp := h1 hz
    rw [hd]
    refine ⟨by simp [Srt], ?_, ?_, fun h => (by cases h)⟩
    · simp only [if_true, List.nil_append, List.mem_singleton]
      intro a ha x hx
      subst ha
      exact root_mem hh (top_get hz) x (hp.mem_iff.2 (List.mem_cons_of_mem _ hx))
    · simp only [if_true, List.nil_append]
      exact hm.symm.trans hp
end HeapP
def lenV : Value → Nat
  | .slice _ n _ => n
  | _ => 0
/-- what holds at the head of the loop that pops -/
def SRel (B p g : Nat) (l : List En) (w : World) (o pe ok : Value) (wr : World) : Prop :=
  ∃ (out : List En) (b : Bool) (e : En) (L' : List En) (q : Nat), pe = .pointer (some ⟨q, 0, none⟩) ∧ ok = .bool b ∧ lenV o = out.length ∧ Popped l out b e L' ∧ IsHeap L' ∧ Hp wr p g L' ∧ Own wr B 70 3 ent o out ∧
    Trio wr q (.int .i64 e.t) (.int .i64 e.k) (.int .i64 e.i) ∧ (∀ k, o.ownBlock = some k → k ≠ q) ∧ B ≤ q ∧ Below w.heap.size w wr
set_option maxRecDepth 100000 in
set_option maxHeartbeats 4000000 in
theorem heap_sorted (A : Option Addr) (n c B : Nat) (l : List En) (w : World) (hr : Rd w B 3 A n (l.flatMap ent)) (hB : B ≤ w.heap.size) (hl : l.length = n) (hn : n ≤ 1000000) :
    Calls Try.prog 43 #[.slice A n c] w (SortPost l w) := by
  have HM := hide (heap_make A n c B l w hr hB hl hn)
  have Hl := hide hl
  clear hl hr
  go_enter Try.func43, Try.ntmps43
  go_upto_region 2 with (go_at_call 36; refine (HM.out).mono ?_; rintro e w1 ⟨p, g, L1, rfl, hp1, hi1, hm1, hpz, hgz, hb1⟩; have HP1 := hide hp1; have HI1 := hide hi1; have HM1 := hide hm1; have HB1 := hide hb1; have hpl := hp1.pl; have hgl := hp1.gl; clear hp1 hi1 hm1 hb1)
  have HPO := hide (heap_pop p g n L1 w1 HP1.out HI1.out (HM1.out.length_eq.trans Hl.out) hn)
  clear HM
  go_wp2_with (go_at_call 63; refine (HPO.out).mono ?_; rintro e w2 ⟨rfl, L2, hp2, hi2, h20, h21, ho2⟩; have HP2 := hide hp2; have HI2 := hide hi2; have H20 := hide h20; have H21 := hide h21; have HO2 := hide ho2; clear hp2 hi2 h20 h21 ho2)
  have hl1 := HM1.out.length_eq.trans Hl.out
  have hp0 := Popped.first HM1.out HI1.out (by rw [hl1]; exact H20.out) (by rw [hl1]; exact H21.out)
  rw [hl1] at hp0
  have HPP := hide hp0
  have HP3 := hide (HP2.out.below ((Below.refl _ _).alloc (Nat.le_refl _) (.cells #[.int .i64 (top L1).t, .int .i64 (top L1).k, .int .i64 (top L1).i] 70)))
  have HT3 := hide (Trio.new w2 70 (.int .i64 (top L1).t) (.int .i64 (top L1).k) (.int .i64 (top L1).i))
  have hbz := HO2.out.below (B := w.heap.size) hpz hgz HB1.out.size
  have hb3 := (HB1.out.trans hbz).alloc (Nat.le_trans HB1.out.size hbz.size) (.cells #[.int .i64 (top L1).t, .int .i64 (top L1).k, .int .i64 (top L1).i] 70)
  have HB3 := hide hb3
  have hwz := HB1.out.size
  have hqz := HO2.out.size
  clear hp0 hl1 hbz hb3 HPO H20 H21 HM1 HI1 HP1 HB1 HP2 HO2
  generalize w2.alloc (.cells #[.int .i64 (top L1).t, .int .i64 (top L1).k, .int .i64 (top L1).i] 70) = w3 at *
  generalize w2.heap.size = q0 at *
  generalize w1.heap.size = B0 at *
  generalize top L1 = e0 at *
  generalize decide (0 < n) = b0 at *
  have HPG := hide (show p < B0 ∧ g < B0 ∧ w.heap.size ≤ p ∧ w.heap.size ≤ g ∧ w.heap.size ≤ B0 from ⟨hpl, hgl, hpz, hgz, hwz⟩)
  go_loopw [4, 5, 6] (fun o pe ok wr => SRel B0 p g l w o pe ok wr) (fun o _ _ _ => n - lenV o)
  case atStart => exact ⟨[], b0, e0, L2, q0, rfl, rfl, rfl, HPP.out, HI2.out, HP3.out, Own.nil _ _ _ _ _, HT3.out, fun k hk => (by cases hk), hqz, HB3.out⟩
  case round =>
    obtain ⟨out, b, e, L', q, rfl, rfl, hlo, hpp, hih, hp', hown, htr, hkq, hq, hbel⟩ := hrel
    have HPQ := hide hpp
    have HIH := hide hih
    have HP := hide hp'
    have HO := hide hown
    have HT := hide htr
    have HKQ := hide hkq
    have HBE := hide hbel
    have HLO := hide hlo
    clear HP3 HT3 HB3 HPP HI2
    cases b with
    | false =>
      clear hpp hih hp' hown htr hkq hbel hlo
      go_wp2_with fail
      go_ret
      refine ⟨⟨_, out, rfl, HO.out.small HPG.out.2.2.2.2, ?_, ?_⟩, HBE.out⟩
      · have := HPQ.out.srt; simpa using this
      · have := HPQ.out.perm; rw [HPQ.out.none rfl] at this; simpa using this.symm
    | true =>
      have hlen := hpp.perm.length_eq
      simp only [if_true, List.length_append, List.length_singleton] at hlen
      rw [Hl.out] at hlen
      have hlen2 : out.length + 1 + L'.length ≤ n := Nat.le_of_eq hlen.symm
      clear hlen
      have hbw := hbel.size
      clear hpp hih hp' hown hkq hbel hlo
      obtain ⟨t0, t1, t2, f0, f1, f2, hqs⟩ := htr
      have HNE := hide (show some p ≠ u4.ownBlock ∧ some g ≠ u4.ownBlock ∧ some q ≠ u4.ownBlock ∧ (∀ k, u4.ownBlock = some k → B0 ≤ k ∧ k < wr.heap.size) from ⟨fun h => by have := HO.out.row.lt _ h.symm; omega, fun h => by have := HO.out.row.lt _ h.symm; omega, fun h => HKQ.out _ h.symm rfl, HO.out.row.lt⟩)
      have HALL := hide ((Below.refl wr.heap.size wr).alloc (Nat.le_refl _) (.cells #[.int .i64 e.t, .int .i64 e.k, .int .i64 e.i] 70))
      have hLL : L'.length ≤ 1000000 := by omega
      have hB0 := HO.out
      go_wp2_with (first
        | (at_builtin; refine pushG rfl _ _ 64 rfl Try.underlying64 Ent.info rfl (by omega) (by omega) rfl (HO.out.alloc _) e ⟨_, 0, none⟩ 1 rfl rfl (ent_new _ _ _ _ _ _ rfl) (ent_one _) (by omega) (by simp; omega) ?_; intro g6 cap6 w6 hown6 hgr6 hk6 hl6;
            have hgr7 : (wr.alloc (.cells #[.int .i64 e.t, .int .i64 e.k, .int .i64 e.i] 70)).grownBy w6 u4.ownBlock := hgr6;
            have hk7 : u4.ownBlock = some g6 ∨ g6 = (wr.alloc (.cells #[.int .i64 e.t, .int .i64 e.k, .int .i64 e.i] 70)).heap.size := hk6;
            have HP6 := hide ((HP.out.below HALL.out).grown hgr7 HNE.out.1 HNE.out.2.1);
            have HT6 := hide ((HT.out.below HALL.out).grown hgr7 HNE.out.2.2.1);
            have HB6 := hide (((HBE.out.alloc hbw (.cells #[.int .i64 e.t, .int .i64 e.k, .int .i64 e.i] 70)).grown hgr7 (by simp; omega) (fun k hk => (by have := (HNE.out.2.2.2 k hk).1; omega)) : Below w.heap.size w w6));
            have HO6 := hide hown6; have hz6 := hgr7.size; have HK7 := hide hk7;
            obtain ⟨q0', q1', q2', -, -, -, hq6⟩ := HT6.out;
            clear hown6 hgr6 hgr7 hk6 hk7 t0 t1 t2 f0 f1 f2)
        | (go_at_call 63; refine (heap_pop p g L'.length L' _ (HP6.out.below ((Below.refl _ _).alloc (Nat.le_refl _) (.cells #[.int .i64 e.t, .int .i64 e.k, .int .i64 e.i] 70))) HIH.out rfl hLL).mono ?_; rintro e8 w8 ⟨rfl, L8, hp8, hi8, h80, h81, ho8⟩;
            have HP8 := hide hp8; have HI8 := hide hi8; have H80 := hide h80; have H81 := hide h81; have HO8 := hide ho8; clear hp8 hi8 h80 h81 ho8;
            have HT8 := hide ((Trio.new w6 70 (.int .i64 e.t) (.int .i64 e.k) (.int .i64 e.i)).only HO8.out (by omega) (by omega));
            obtain ⟨u0, u1, u2, v0, v1, v2, hu⟩ := HT8.out))
      go_roundw
      case rel =>
        have hg6 := HO6.out.row.lt g6 rfl
        have hne1 : some p ≠ some w6.heap.size := fun h => by injection h with h; omega
        have hne2 : some g ≠ some w6.heap.size := fun h => by injection h with h; omega
        refine ⟨out ++ [e], decide (0 < L'.length), top L', L8, w6.heap.size, rfl, rfl, by simp [lenV], HPQ.out.next HIH.out H80.out H81.out, HI8.out, HP8.out.grown (grown_set3 _ _ _ _ _) hne1 hne2, ?_, HT8.out.stored _ _ _, ?_, by omega, ?_⟩
        · refine (((HO6.out.below ((Below.refl _ _).alloc (Nat.le_refl _) (.cells #[.int .i64 e.t, .int .i64 e.k, .int .i64 e.i] 70))).only HO8.out fun k hk => ?_).grown (grown_set3 _ _ _ _ _) (.inr fun h => ?_))
          · simp [Value.ownBlock] at hk; omega
          · simp [Value.ownBlock] at h; omega
        · intro k hk
          simp [Value.ownBlock] at hk; omega
        · refine ((HB6.out.alloc HB6.out.size (.cells #[.int .i64 e.t, .int .i64 e.k, .int .i64 e.i] 70)).trans (HO8.out.below hpz hgz (by simp; have := HB6.out.size; omega))).grown (grown_set3 _ _ _ _ _) (by have := HB6.out.size; omega) (fun k hk => by injection hk with hk; have := HB6.out.size; omega)
      case measure =>
        have hlo := HLO.out
        show n - (out.length + 1) < n - lenV u4
        omega
end Go.Proofs.Ytknmpfimnbenjaa
