/-
  The walks of the calendar's Peek, Pop, Set.
-/
import Derived.Test.YtknmpfimnbenjaaCalB
import Derived.Test.YtknmpfimnbenjaaHeapUntil
namespace Go.Proofs.Ytknmpfimnbenjaa
open Go.RowKit HB HeapP Go.Maps CalP
set_option linter.unusedVariables false
set_option linter.unusedSimpArgs false
namespace HB
def hpLen (p : Nat) (w : World) : Nat := match w.cell? ⟨p, 0, none⟩ with | some v => lenV v | none => 0
theorem Hp.len {w : World} {p g : Nat} {L : List En} (h : Hp w p g L) : hpLen p w = L.length := by
  obtain ⟨A, c, h1, _⟩ := h.sl
  unfold hpLen; rw [h1]; rfl
theorem Trio.but {w w' : World} {X : Nat → Prop} {r : Nat} {x y z : Value} (h : Trio w r x y z) (ho : But X w w') (hx : ¬ X r) : Trio w' r x y z := by
  have hb := ho.block r h.lt hx
  have hc : ∀ o, w'.cell? ⟨r, o, none⟩ = w.cell? ⟨r, o, none⟩ := fun o => World.cell?_of_block (a := ⟨r, o, none⟩) hb
  have hf : ∀ o, w'.frozen? ⟨r, o, none⟩ = w.frozen? ⟨r, o, none⟩ := fun o => World.frozen?_of_block (a := ⟨r, o, none⟩) hb
  exact ⟨(hc 0).trans h.c0, (hc 1).trans h.c1, (hc 2).trans h.c2, (hf 0).trans h.f0, (hf 1).trans h.f1, (hf 2).trans h.f2, Nat.lt_of_lt_of_le h.lt ho.size⟩
end HB
namespace CalP
theorem Cs.set_ {w w1 w2 : World} {p g g' n n' : Nat} {m : Option Nat} {L L' l l1 l' : List En} (h : Cs w p g m n L l) (hg : w.grownBy w1 m) (hmp : Mp w1 m n' l1) (hp' : Hp w2 p g' L') (ho : Only p g w1 w2)
    (hg' : g' = g ∨ w1.heap.size ≤ g') (hch : Ch L' l') (hperm : l1.Perm l') : Cs w2 p g' m n' L' l' := by
  have hp : some p ≠ m := fun e => (h.ne p e.symm).1 rfl
  have hb := hg.block p h.pl hp
  have hr := ho.rest (Nat.lt_of_lt_of_le h.pl hg.size) 1 (by omega)
  refine ⟨hp', hr.1.trans ((World.cell?_of_block (a := ⟨p, 1, none⟩) hb).trans h.mc), hr.2.trans ((World.frozen?_of_block (a := ⟨p, 1, none⟩) hb).trans h.mf), hch, (hmp.only ho h.ne).perm hperm, fun b hb' => ⟨(h.ne b hb').1, ?_⟩⟩
  rcases hg' with rfl | hg'
  · exact (h.ne b hb').2
  · have := hmp.lt hb'; omega
theorem grown_refl (w : World) (row : Option Nat) : w.grownBy w row := ⟨rfl, rfl, rfl, Nat.le_refl _, fun _ _ _ => rfl⟩
theorem Cs.popped {w w2 : World} {p g n : Nat} {m : Option Nat} {L L' l : List En} (h : Cs w p g m n L l) (hp' : Hp w2 p g L') (ho : Only p g w w2) (hch : Ch L' l) : Cs w2 p g m n L' l :=
  h.set_ (grown_refl w m) h.mp hp' ho (.inl rfl) hch (List.Perm.refl _)
theorem Cs.setNew {w : World} {p g n : Nat} {m : Option Nat} {L l : List En} (h : Cs w p g m n L l) {a : Addr} (ha : ¬ Xb p g m a.block) (u : Value) : Cs (w.setCell a u) p g m n L l := by
  have h1 : a.block ≠ p := fun e => ha (.inl e)
  have h2 : a.block ≠ g := fun e => ha (.inr (.inl e))
  have hb : (w.setCell a u).heap[p]? = w.heap[p]? := Below.heap_setCell _ _ _ _ (fun e => h1 e.symm)
  refine ⟨h.hp.setOther h1 h2 u, (World.cell?_of_block (a := ⟨p, 1, none⟩) hb).trans h.mc, (World.frozen?_of_block (a := ⟨p, 1, none⟩) hb).trans h.mf, h.ch, ?_, h.ne⟩
  refine h.mp.kept (row := some a.block) ⟨rfl, rfl, rfl, by simp, fun k hk hne => Below.heap_setCell _ _ _ _ (fun e => hne (by rw [e]))⟩ (fun b hb' e => ha (.inr (.inr ?_)))
  rw [hb']; exact e
theorem live_of {L l : List En} (h : Ch L l) {c : Int} {ok : Bool} (ht : Told l (top L).k (top L).i c ok) : (ok = true ∧ c = (top L).t ∧ top L ∈ l) ∨ ((ok = false ∨ c ≠ (top L).t) ∧ top L ∉ l) := by
  rcases ht with ⟨rfl, e, he, h1, h2, h3⟩ | ⟨rfl, rfl, h1⟩
  · by_cases hc : c = (top L).t
    · refine .inl ⟨rfl, hc, ?_⟩
      have : e = top L := by
        obtain ⟨a, b, d⟩ := e
        have h4 : a = (top L).t := h3.trans hc
        have h1' : b = (top L).k := h1
        have h2' : d = (top L).i := h2
        rw [h4, h1', h2']
      rw [← this]; exact he
    · refine .inr ⟨.inr hc, fun hm => hc ?_⟩
      have := h.uq.same he hm h1 h2
      rw [← this]; exact h3.symm
  · exact .inr ⟨.inl rfl, fun hm => h1 _ hm ⟨rfl, rfl⟩⟩
theorem Cs.gone {w w1 w2 w3 : World} {p g n n' : Nat} {m : Option Nat} {L L' l l' : List En} (h : Cs w p g m n L l) (hp' : Hp w1 p g L') (ho : Only p g w w1) (hb : Below w1.heap.size w1 w2) (hg : w2.grownBy w3 m) (hmp : Mp w3 m n' l') (hch : Ch L' l') : Cs w3 p g m n' L' l' := by
  have hp : some p ≠ m := fun e => (h.ne p e.symm).1 rfl
  have hgg : some g ≠ m := fun e => (h.ne g e.symm).2 rfl
  have hr := ho.rest h.pl 1 (by omega)
  have hpl := Nat.lt_of_lt_of_le h.pl ho.size
  have hk := hg.block p (Nat.lt_of_lt_of_le hpl hb.size) hp
  exact ⟨(hp'.below hb).grown hg hp hgg, (World.cell?_of_block (a := ⟨p, 1, none⟩) hk).trans (hold1 hb (hr.1.trans h.mc)), (World.frozen?_of_block (a := ⟨p, 1, none⟩) hk).trans ((hb.frozen (p := ⟨p, 1, none⟩) hpl).trans (hr.2.trans h.mf)), hch, hmp, h.ne⟩
end CalP
def CPeek (p g n : Nat) (m : Option Nat) (L l : List En) (w : World) (e : Ending) (w' : World) : Prop :=
  e = .returned (.tuple #[.agg #[.int .i64 (top l).t, .int .i64 (top l).k, .int .i64 (top l).i], .bool (decide (0 < l.length))]) ∧ ∃ L', Cs w' p g m n L' l ∧ (0 < l.length → 0 < L'.length ∧ top L' = top l) ∧ L'.length ≤ L.length ∧ But (Xb p g m) w w'
theorem CPeek.back {p g n : Nat} {m : Option Nat} {L L' l : List En} {w wr : World} (hC : Cs wr p g m n L' l) (hO : But (Xb p g m) w wr) (hx : ∀ k, Xb p g m k → k < w.heap.size) (hle : L'.length ≤ L.length) (hl : 0 < l.length → 0 < L'.length ∧ top L' = top l) (x y z : Value) :
    ∃ L2, Cs (((wr.setCell ⟨w.heap.size, 0, none⟩ x).setCell ⟨w.heap.size, 1, none⟩ y).setCell ⟨w.heap.size, 2, none⟩ z) p g m n L2 l ∧ (0 < l.length → 0 < L2.length ∧ top L2 = top l) ∧ L2.length ≤ L.length ∧ But (Xb p g m) w (((wr.setCell ⟨w.heap.size, 0, none⟩ x).setCell ⟨w.heap.size, 1, none⟩ y).setCell ⟨w.heap.size, 2, none⟩ z) := by
  have hn : ¬ Xb p g m w.heap.size := fun h => Nat.lt_irrefl _ (hx _ h)
  exact ⟨L', ((hC.setNew (a := ⟨w.heap.size, 0, none⟩) hn x).setNew (a := ⟨w.heap.size, 1, none⟩) hn y).setNew (a := ⟨w.heap.size, 2, none⟩) hn z, hl, hle,
    ((hO.set (a := ⟨w.heap.size, 0, none⟩) (.inr (Nat.le_refl _)) x).set (a := ⟨w.heap.size, 1, none⟩) (.inr (Nat.le_refl _)) y).set (a := ⟨w.heap.size, 2, none⟩) (.inr (Nat.le_refl _)) z⟩
def CRel (p g n N : Nat) (m : Option Nat) (l : List En) (w : World) (pe ok : Value) (wr : World) : Prop :=
  ∃ (L' : List En) (q : Nat), pe = .pointer (some ⟨q, 0, none⟩) ∧ ok = .bool (decide (0 < L'.length)) ∧ L'.length ≤ N ∧ Cs wr p g m n L' l ∧ Trio wr w.heap.size (.int .i64 0) (.int .i64 0) (.int .i64 0) ∧ Trio wr q (.int .i64 (top L').t) (.int .i64 (top L').k) (.int .i64 (top L').i) ∧ w.heap.size < q ∧ But (Xb p g m) w wr
set_option maxRecDepth 100000 in
set_option maxHeartbeats 8000000 in
theorem cal_peek (p g n N : Nat) (m : Option Nat) (L l : List En) (w : World) (h : Cs w p g m n L l) (hl : L.length = N) (hn : N ≤ 1000000) :
    Calls Try.prog 48 #[.pointer (some ⟨p, 0, none⟩)] w (CPeek p g n m L l w) := by
  have HC := hide h
  have Hl := hide hl
  have HX := hide (fun k (hk : Xb p g m k) => h.xlt hk)
  have hpl := h.pl
  have hgl := h.hp.gl
  have HB0 := hide ((Below.refl w.heap.size w).alloc (Nat.le_refl _) (.cells #[.int .i64 0, .int .i64 0, .int .i64 0] 70))
  have HT0 := hide (Trio.new w 70 (.int .i64 0) (.int .i64 0) (.int .i64 0))
  have HPK := hide (heap_peek p g L.length L _ (h.hp.below HB0.out) rfl (by omega))
  clear h hl
  go_enter Try.func48, Try.ntmps48
  go_wp2_with (go_at_call 40; refine (HPK.out).mono ?_; rintro e w1 ⟨rfl, hb1⟩; have HB1 := hide hb1; clear hb1)
  have HC3 := hide ((HC.out.below HB0.out).below (HB1.out.alloc HB1.out.size (.cells #[.int .i64 (top L).t, .int .i64 (top L).k, .int .i64 (top L).i] 70)))
  have HR3 := hide (HT0.out.below (HB1.out.alloc HB1.out.size (.cells #[.int .i64 (top L).t, .int .i64 (top L).k, .int .i64 (top L).i] 70)))
  have HT3 := hide (Trio.new w1 70 (.int .i64 (top L).t) (.int .i64 (top L).k) (.int .i64 (top L).i))
  have HO3 := hide ((But.of_below (X := Xb p g m) HB0.out).then_ (HB1.out.alloc HB1.out.size (.cells #[.int .i64 (top L).t, .int .i64 (top L).k, .int .i64 (top L).i] 70)))
  have hqz : w.heap.size < w1.heap.size := by have := HB1.out.size; simp at this; omega
  clear HPK HB1 HB0 HT0
  generalize w1.alloc (.cells #[.int .i64 (top L).t, .int .i64 (top L).k, .int .i64 (top L).i] 70) = w3 at *
  generalize w1.heap.size = q0 at *
  go_loopw [4, 5] (fun pe ok wr => CRel p g n N m l w pe ok wr) (fun _ _ wr => hpLen p wr)
  case atStart => exact ⟨L, q0, rfl, rfl, by rw [Hl.out]; exact Nat.le_refl _, HC3.out, HR3.out, HT3.out, hqz, HO3.out⟩
  case round =>
    obtain ⟨L', q, rfl, rfl, hlo, hc', hrt, htr, hq, hon⟩ := hrel
    have HC := hide hc'
    have HR := hide hrt
    have HT := hide htr
    have HON := hide hon
    have HXL := hide (fun k (hk : Xb p g m k) => HX.out k hk)
    have hbw := hon.size
    have c1 := hc'.mc
    clear hc' hrt htr hon HC3 HR3 HT3 HO3
    obtain ⟨t0, t1, t2, -, -, -, -⟩ := HT.out
    obtain ⟨r0, r1, r2, f0, f1, f2, hrl⟩ := HR.out
    rcases Nat.eq_zero_or_pos L'.length with hz | hz
    · have hd : decide (0 < L'.length) = false := by simp; exact List.eq_nil_of_length_eq_zero hz
      have hle : l = [] := by
        cases l with
        | nil => rfl
        | cons x t =>
          have := List.length_pos_of_mem (HC.out.ch.sub x List.mem_cons_self)
          omega
      have HZ := hide hz
      have HLE := hide hle
      clear hz hle
      rw [hd]
      clear hd
      go_wp2_with fail
      refine bodyPost_ret (by simp [results, Try.results48, go_sem, *]; try rfl) rfl ?_
      refine ⟨by rw [HLE.out]; rfl, CPeek.back HC.out HON.out HX.out (by rw [Hl.out]; exact hlo) (fun h => by rw [HLE.out] at h; simp at h) _ _ _⟩
    · have hd : decide (0 < L'.length) = true := by simpa using hz
      have HZ := hide hz
      have hwt := HC.out.ch.wf _ (List.mem_of_getElem? (top_get hz))
      obtain ⟨c, ok, hT, hrun⟩ := HC.out.look hwt.2.1 hwt.2.2
      have HLV := hide (live_of HC.out.ch hT)
      have HRN := hide hrun
      rw [hd]
      clear hz hd hwt hT hrun
      go_wp2_with fail
      go_region_held3 (fun w' => w'.cell? ⟨p, 1, none⟩ = some (.map m) ∧ w'.cell? ⟨q, 1, none⟩ = some (.int .i64 (top L').k) ∧ w'.cell? ⟨q, 2, none⟩ = some (.int .i64 (top L').i) ∧ (Instr.lookup 86 (.map m) (.agg #[.int .i64 (top L').k, .int .i64 (top L').i]) true).run Try.prog w' = .ok (.tuple #[.int .i64 c, .bool ok]) w' ∧ Below wr.heap.size wr w')
        (first | (go_split_ands; exact ⟨hold1 hb4 ‹_›, hold1 hb4 ‹_›, hold1 hb4 ‹_›, HRN.out _ ((‹Below wr.heap.size wr _›).trans (hb4.mono (‹Below wr.heap.size wr _›).size)), (‹Below wr.heap.size wr _›).trans (hb4.mono (‹Below wr.heap.size wr _›).size)⟩) | (exact ⟨c1, t1, t2, HRN.out _ (Below.refl _ _).drew, (Below.refl _ _).drew⟩) | (go_split_ands; exact ⟨‹_›, ‹_›, ‹_›, ‹_›, ‹_›⟩))
        (first | (go_at_call 73; refine (cal_key _ _ _).mono ?_; rintro e w4 ⟨rfl, hb4⟩))
      have HB4 := hide (show Below wr.heap.size wr w4 from by go_split_ands; assumption)
      rename_i hH
      clear hH hb4 t0 t1 t2 r0 r1 r2 f0 f1 f2 c1
      have HC4 := hide (HC.out.below HB4.out)
      have HR4 := hide (HR.out.below HB4.out)
      have HT4 := hide (HT.out.below HB4.out)
      have HO4 := hide (HON.out.then_ HB4.out)
      have hz4 := HB4.out.size
      obtain ⟨t0, t1, t2, -, -, -, -⟩ := HT4.out
      obtain ⟨r0, r1, r2, f0, f1, f2, hrl⟩ := HR4.out
      rcases HLV.out with ⟨rfl, rfl, hm⟩ | ⟨hnl, hm⟩
      · obtain ⟨t, ht⟩ := HC4.out.ch.live HZ.out hm
        have HTL := hide (show top l = top L' ∧ 0 < l.length from by rw [ht]; exact ⟨rfl, by simp⟩)
        clear hm ht
        go_wp2_with fail
        refine bodyPost_ret (by simp [results, Try.results48, go_sem, *]; try rfl) rfl ?_
        refine ⟨by rw [HTL.out.1, decide_eq_true HTL.out.2], CPeek.back HC4.out HO4.out HX.out (by rw [Hl.out]; exact hlo) (fun _ => ⟨HZ.out, HTL.out.1.symm⟩) _ _ _⟩
      · have HNL := hide hm
        have HNE := hide (show q ≠ p ∧ q ≠ g ∧ w.heap.size ≠ p ∧ w.heap.size ≠ g from by omega)
        have hpo := heap_pop p g L'.length L' w4 HC4.out.hp HC4.out.ch.heap rfl (by omega)
        rw [show decide (0 < L'.length) = true from by simpa using HZ.out] at hpo
        have HPO := hide hpo
        have hbr : ok = false ∨ (ok = true ∧ (c == (top L').t) = false) := by
          rcases hnl with h | h
          · exact .inl h
          · cases ok with
            | false => exact .inl rfl
            | true => exact .inr ⟨rfl, by simpa using h⟩
        clear hm hnl hpo HRN HLV
        rcases hbr with rfl | ⟨rfl, hcc⟩
        · go_wp2_with (first
            | (go_at_call 63; refine (HPO.out).mono ?_; rintro e8 w8 ⟨rfl, L8, hp8, hi8, h80, h81, ho8⟩;
                have H81 := hide (h81 HZ.out); have hz8 := ho8.size; have HC8 := hide (HC4.out.popped hp8 ho8 (HC4.out.ch.stale hi8 (h81 HZ.out) HNL.out));
                have HO8 := hide (HO4.out.trans (But.of_only (X := Xb p g m) ho8 (.inl rfl) (.inr (.inl rfl))) (fun _ _ h => h));
                have HT8 := hide (HT4.out.only ho8 HNE.out.1 HNE.out.2.1); have HR8 := hide (HR4.out.only ho8 HNE.out.2.2.1 HNE.out.2.2.2);
                clear hp8 hi8 h80 h81 ho8 t0 t1 t2 r0 r1 r2 f0 f1 f2;
                obtain ⟨t0, t1, t2, -, -, -, -⟩ := HT8.out)
            | (go_at_call 40; refine (heap_peek p g L8.length L8 _ (HC8.out.hp.below ((Below.refl _ _).alloc (Nat.le_refl _) (.cells #[.int .i64 (top L').t, .int .i64 (top L').k, .int .i64 (top L').i] 70))) rfl (by have := H81.out.length_eq; simp at this; omega)).mono ?_; rintro e9 w9 ⟨rfl, hb9⟩;
                have HB9 := hide hb9; clear hb9;
                have HT9 := hide ((Trio.new w8 70 (.int .i64 (top L').t) (.int .i64 (top L').k) (.int .i64 (top L').i)).below HB9.out);
                obtain ⟨u0, u1, u2, v0, v1, v2, hu⟩ := HT9.out))
          have hln := H81.out.length_eq
          simp only [List.length_cons] at hln
          have hb89 : Below w8.heap.size w8 w9 := then_ ((Below.refl w8.heap.size w8).alloc (Nat.le_refl _) (.cells #[.int .i64 (top L').t, .int .i64 (top L').k, .int .i64 (top L').i] 70)) HB9.out (by simp)
          have hnx : ¬ Xb p g m w8.heap.size := fun h => by have := HX.out _ h; omega
          have hcs := (((HC8.out.below hb89).setNew (a := ⟨w8.heap.size, 0, none⟩) hnx (.int .i64 (top L8).t)).setNew (a := ⟨w8.heap.size, 1, none⟩) hnx (.int .i64 (top L8).k)).setNew (a := ⟨w8.heap.size, 2, none⟩) hnx (.int .i64 (top L8).i)
          refine ⟨⟨L8, w8.heap.size, rfl, rfl, by omega, hcs, (HR8.out.below hb89).grown (grown_set3 _ _ _ _ _) (fun h => by injection h with h; omega), HT9.out.stored _ _ _, by omega, (HO8.out.then_ hb89).grown (grown_set3 _ _ _ _ _) (fun k hk hk2 => by injection hk with hk; omega)⟩, ?_⟩
          rw [hcs.hp.len, HC.out.hp.len]; omega
        · go_wp2_with (first
            | (go_at_call 63; refine (HPO.out).mono ?_; rintro e8 w8 ⟨rfl, L8, hp8, hi8, h80, h81, ho8⟩;
                have H81 := hide (h81 HZ.out); have hz8 := ho8.size; have HC8 := hide (HC4.out.popped hp8 ho8 (HC4.out.ch.stale hi8 (h81 HZ.out) HNL.out));
                have HO8 := hide (HO4.out.trans (But.of_only (X := Xb p g m) ho8 (.inl rfl) (.inr (.inl rfl))) (fun _ _ h => h));
                have HT8 := hide (HT4.out.only ho8 HNE.out.1 HNE.out.2.1); have HR8 := hide (HR4.out.only ho8 HNE.out.2.2.1 HNE.out.2.2.2);
                clear hp8 hi8 h80 h81 ho8 t0 t1 t2 r0 r1 r2 f0 f1 f2;
                obtain ⟨t0, t1, t2, -, -, -, -⟩ := HT8.out)
            | (go_at_call 40; refine (heap_peek p g L8.length L8 _ (HC8.out.hp.below ((Below.refl _ _).alloc (Nat.le_refl _) (.cells #[.int .i64 (top L').t, .int .i64 (top L').k, .int .i64 (top L').i] 70))) rfl (by have := H81.out.length_eq; simp at this; omega)).mono ?_; rintro e9 w9 ⟨rfl, hb9⟩;
                have HB9 := hide hb9; clear hb9;
                have HT9 := hide ((Trio.new w8 70 (.int .i64 (top L').t) (.int .i64 (top L').k) (.int .i64 (top L').i)).below HB9.out);
                obtain ⟨u0, u1, u2, v0, v1, v2, hu⟩ := HT9.out))
          have hln := H81.out.length_eq
          simp only [List.length_cons] at hln
          have hb89 : Below w8.heap.size w8 w9 := then_ ((Below.refl w8.heap.size w8).alloc (Nat.le_refl _) (.cells #[.int .i64 (top L').t, .int .i64 (top L').k, .int .i64 (top L').i] 70)) HB9.out (by simp)
          have hnx : ¬ Xb p g m w8.heap.size := fun h => by have := HX.out _ h; omega
          have hcs := (((HC8.out.below hb89).setNew (a := ⟨w8.heap.size, 0, none⟩) hnx (.int .i64 (top L8).t)).setNew (a := ⟨w8.heap.size, 1, none⟩) hnx (.int .i64 (top L8).k)).setNew (a := ⟨w8.heap.size, 2, none⟩) hnx (.int .i64 (top L8).i)
          refine ⟨⟨L8, w8.heap.size, rfl, rfl, by omega, hcs, (HR8.out.below hb89).grown (grown_set3 _ _ _ _ _) (fun h => by injection h with h; omega), HT9.out.stored _ _ _, by omega, (HO8.out.then_ hb89).grown (grown_set3 _ _ _ _ _) (fun k hk hk2 => by injection hk with hk; omega)⟩, ?_⟩
          rw [hcs.hp.len, HC.out.hp.len]; omega
def CPop (p g n : Nat) (m : Option Nat) (L l : List En) (w : World) (e : Ending) (w' : World) : Prop :=
  e = .returned (.tuple #[.agg #[.int .i64 (top l).t, .int .i64 (top l).k, .int .i64 (top l).i], .bool (decide (0 < l.length))]) ∧ ∃ L', Cs w' p g m n L' (l.drop 1) ∧ L'.length ≤ L.length ∧ But (Xb p g m) w w'
theorem CPop.back {p g n : Nat} {m : Option Nat} {L L' l : List En} {w wr : World} (hC : Cs wr p g m n L' l) (hO : But (Xb p g m) w wr) (hx : ∀ k, Xb p g m k → k < w.heap.size) (hle : L'.length ≤ L.length) (x y z : Value) :
    ∃ L2, Cs (((wr.setCell ⟨w.heap.size, 0, none⟩ x).setCell ⟨w.heap.size, 1, none⟩ y).setCell ⟨w.heap.size, 2, none⟩ z) p g m n L2 l ∧ L2.length ≤ L.length ∧ But (Xb p g m) w (((wr.setCell ⟨w.heap.size, 0, none⟩ x).setCell ⟨w.heap.size, 1, none⟩ y).setCell ⟨w.heap.size, 2, none⟩ z) := by
  have hn : ¬ Xb p g m w.heap.size := fun h => Nat.lt_irrefl _ (hx _ h)
  exact ⟨L', ((hC.setNew (a := ⟨w.heap.size, 0, none⟩) hn x).setNew (a := ⟨w.heap.size, 1, none⟩) hn y).setNew (a := ⟨w.heap.size, 2, none⟩) hn z, hle,
    ((hO.set (a := ⟨w.heap.size, 0, none⟩) (.inr (Nat.le_refl _)) x).set (a := ⟨w.heap.size, 1, none⟩) (.inr (Nat.le_refl _)) y).set (a := ⟨w.heap.size, 2, none⟩) (.inr (Nat.le_refl _)) z⟩
set_option maxRecDepth 100000 in
set_option maxHeartbeats 8000000 in
theorem cal_pop (p g n N : Nat) (m : Option Nat) (L l : List En) (w : World) (h : Cs w p g m n L l) (hl : L.length = N) (hn : N ≤ 1000000) :
    Calls Try.prog 69 #[.pointer (some ⟨p, 0, none⟩)] w (CPop p g n m L l w) := by
  have Hl := hide hl
  have HX := hide (fun k (hk : Xb p g m k) => h.xlt hk)
  have hpl := h.pl
  have hgl := h.hp.gl
  have HB0 := hide ((Below.refl w.heap.size w).alloc (Nat.le_refl _) (.cells #[.int .i64 0, .int .i64 0, .int .i64 0] 70))
  have HT0 := hide (Trio.new w 70 (.int .i64 0) (.int .i64 0) (.int .i64 0))
  have HPK := hide (cal_peek p g n N m L l _ (h.below HB0.out) hl hn)
  clear h hl
  go_enter Try.func69, Try.ntmps69
  go_upto_region 2 with (go_at_call 48; refine (HPK.out).mono ?_; rintro e w1 ⟨rfl, L1, hc1, ht1, hl1, ho1⟩; have HC1 := hide hc1; have HT1 := hide ht1; have HL1 := hide hl1; have HO1 := hide ho1; clear hc1 ht1 hl1 ho1)
  have HC3 := hide (HC1.out.below ((Below.refl _ _).alloc (Nat.le_refl _) (.cells #[.int .i64 (top l).t, .int .i64 (top l).k, .int .i64 (top l).i] 70)))
  have HNE0 := hide (show w.heap.size ≠ p ∧ w.heap.size ≠ g ∧ ¬ Xb p g m w.heap.size from ⟨by omega, by omega, fun h => Nat.lt_irrefl _ (HX.out _ h)⟩)
  have hsz := HO1.out.size
  simp only [World.size_alloc] at hsz
  have HR3 : Hid (Trio (w1.alloc (.cells #[.int .i64 (top l).t, .int .i64 (top l).k, .int .i64 (top l).i] 70)) w.heap.size (.int .i64 0) (.int .i64 0) (.int .i64 0)) := hide (Trio.below (Trio.but HT0.out HO1.out HNE0.out.2.2) ((Below.refl _ _).alloc (Nat.le_refl _) _))
  have HT3 := hide (Trio.new w1 70 (.int .i64 (top l).t) (.int .i64 (top l).k) (.int .i64 (top l).i))
  have HO3 := hide (((But.of_below (X := Xb p g m) HB0.out).trans HO1.out (fun _ _ h => h)).then_ ((Below.refl _ _).alloc (Nat.le_refl _) (.cells #[.int .i64 (top l).t, .int .i64 (top l).k, .int .i64 (top l).i] 70)))
  clear HPK HC1 HB0 HT0 HO1
  generalize w1.alloc (.cells #[.int .i64 (top l).t, .int .i64 (top l).k, .int .i64 (top l).i] 70) = w3 at *
  generalize w1.heap.size = q0 at *
  have c1 := HC3.out.mc
  obtain ⟨t0, t1, t2, -, -, -, -⟩ := HT3.out
  obtain ⟨r0, r1, r2, f0, f1, f2, hrl⟩ := HR3.out
  cases l with
  | nil =>
    go_wp2_with fail
    refine bodyPost_ret (by simp [results, Try.results69, go_sem, *]; try rfl) rfl ?_
    exact ⟨rfl, CPop.back HC3.out HO3.out HX.out HL1.out _ _ _⟩
  | cons a t =>
    obtain ⟨hz, hta⟩ := HT1.out (by simp)
    have HZ := hide hz
    have HTA := hide hta
    have hpo := heap_pop p g L1.length L1 w3 HC3.out.hp HC3.out.ch.heap rfl (by rw [Hl.out] at HL1; have := HL1.out; omega)
    have HPO := hide hpo
    have hwt : wfE (top (a :: t)) := HC3.out.ch.wfl a List.mem_cons_self
    have HL := hide (show Ch L1 (top L1 :: t) by rw [hta]; exact HC3.out.ch)
    have hd : decide (0 < (a :: t).length) = true := by simp
    have HBK := hide (show (a :: t).drop 1 = t from rfl)
    have HTA2 := hide (show top (a :: t) = a from rfl)
    rw [hd]
    have HW := hide hwt
    clear hz hta hpo hwt hd
    generalize top (a :: t) = x at *
    go_upto_region 4 with (go_at_call 63; refine (HPO.out).mono ?_; rintro e w5 ⟨rfl, L5, hp5, hi5, h50, h51, ho5⟩; have HP5 := hide hp5; have HI5 := hide hi5; have H51 := hide (h51 HZ.out); have HO5 := hide ho5; have c5 : w5.cell? ⟨p, 1, none⟩ = some (.map m) := (ho5.rest HC3.out.pl 1 (by omega)).1.trans HC3.out.mc; have HT5 := hide (HT3.out.only ho5 (by omega) (by omega)); have HR5 := hide (HR3.out.only ho5 (by omega) (by omega)); clear hp5 hi5 h50 h51 ho5)
    have HCX := hide HC3.out
    have HXW := hide (fun W (h : Below w5.heap.size w5 W) => (HC3.out.mp.only HO5.out HC3.out.ne).below h)
    obtain ⟨t0, t1, t2, -, -, -, -⟩ := HT5.out
    obtain ⟨r0, r1, r2, f0, f1, f2, hrl⟩ := HR5.out
    go_region_with (go_at_call 73; refine (cal_key x.k x.i _).mono ?_; rintro e w6 ⟨rfl, hb6⟩; have hb : Below w5.heap.size w5 w6 := (Below.refl _ _).drew.trans hb6; obtain ⟨w7, hrun7, hmp7, hgr7⟩ := (HXW.out w6 hb).drop HC3.out.ch.uq HC3.out.ch.wfl HW.out.2.1 HW.out.2.2 0; have c6 := hold1 hb c5; have HM7 := hide hmp7; have HG7 := hide hgr7; have HB6 := hide hb; have T0 := hold1 hb t0; have T1 := hold1 hb t1; have T2 := hold1 hb t2; clear hmp7 hgr7 hb hb6)
    all_goals
      have hq7 : ¬ Xb p g m q0 := fun h => by have := HX.out _ h; omega
      have HT7 := hide ((HT5.out.below HB6.out).grown HG7.out (fun e => hq7 (.inr (.inr e.symm))))
      have HR7 := hide ((HR5.out.below HB6.out).grown HG7.out (fun e => HNE0.out.2.2 (.inr (.inr e.symm))))
      clear T0 T1 T2 t0 t1 t2 r0 r1 r2 f0 f1 f2
      obtain ⟨t0, t1, t2, -, -, -, -⟩ := HT7.out
      obtain ⟨r0, r1, r2, f0, f1, f2, hrl⟩ := HR7.out
      have HCP := hide (show Ch L5 t ∧ wo (a :: t) x.k x.i = t from by
        have h1 := HL.out.pop HI5.out H51.out
        rw [HTA.out] at h1
        refine ⟨h1.1, ?_⟩
        rw [← HTA2.out]; exact h1.2.symm)
      have hm7 := HM7.out
      rw [HCP.out.2] at hm7
      have HC7 := hide (HC3.out.gone HP5.out HO5.out HB6.out HG7.out hm7 HCP.out.1)
      have HO7 := hide (((HO3.out.trans (But.of_only (X := Xb p g m) HO5.out (.inl rfl) (.inr (.inl rfl))) (fun _ _ h => h)).then_ HB6.out).grown HG7.out (fun q hq _ => .inr (.inr hq)))
      have HLE := hide (show L5.length ≤ L.length from by have h1 := H51.out.length_eq; simp only [List.length_cons] at h1; have := HL1.out; omega)
      clear hm7 hq7 HPO
      go_wp2_with fail
      refine bodyPost_ret (by simp [results, Try.results69, go_sem, *]; try rfl) rfl ?_
      exact ⟨by rw [HTA2.out]; rfl, CPop.back HC7.out HO7.out HX.out HLE.out _ _ _⟩
end Go.Proofs.Ytknmpfimnbenjaa
