/-
  The walk of the heap's Until; the plain law of what goes.
-/
import Derived.Test.YtknmpfimnbenjaaHeapSort
namespace Go.Proofs.Ytknmpfimnbenjaa
open Go.RowKit HB HeapP
set_option linter.unusedVariables false
set_option linter.unusedSimpArgs false
namespace HeapP
theorem le_time {a b : En} (h : le a b) : a.t ≤ b.t := by rw [le, nlt_iff] at h; omega
/-- what goes by a time: the first so many of the row in order -/
theorem until_take {l out L' : List En} {T : Int} {n : Nat} (hs : Srt l) (hp : l.Perm (out ++ L')) (ho : Srt out) (h1 : ∀ a ∈ out, a.t ≤ T) (h2 : ∀ x ∈ L', ¬ x.t ≤ T) (hn : n ≤ l.length) (h3 : ∀ x ∈ l.take n, x.t ≤ T) (h4 : n = l.length ∨ ∃ y, l[n]? = some y ∧ ¬ y.t ≤ T) :
    out = l.take n ∧ L'.Perm (l.drop n) := by
  have hd : ∀ x ∈ l.drop n, ¬ x.t ≤ T := by
    rcases h4 with h4 | ⟨y, hy, hyt⟩
    · intro x hx; rw [List.drop_of_length_le (by omega)] at hx; simp at hx
    · intro x hx
      obtain ⟨hlt, e⟩ := List.getElem?_eq_some_iff.1 hy
      rw [List.drop_eq_getElem_cons hlt, e] at hx
      rcases List.mem_cons.1 hx with rfl | hx
      · exact hyt
      · have hs2 := hs.sublist (List.drop_sublist n l)
        rw [List.drop_eq_getElem_cons hlt, e] at hs2
        have := le_time ((List.pairwise_cons.1 hs2).1 x hx)
        omega
  have f1 : (l.filter fun x => decide (x.t ≤ T)) = l.take n := by
    have : l = l.take n ++ l.drop n := (List.take_append_drop n l).symm
    conv => lhs; rw [this]
    rw [List.filter_append, List.filter_eq_self.2 (fun a ha => by simpa using h3 a ha), List.filter_eq_nil_iff.2 (fun a ha => by simpa using hd a ha), List.append_nil]
  have f2 : ((out ++ L').filter fun x => decide (x.t ≤ T)) = out := by
    rw [List.filter_append, List.filter_eq_self.2 (fun a ha => by simpa using h1 a ha), List.filter_eq_nil_iff.2 (fun a ha => by simpa using h2 a ha), List.append_nil]
  have f3 := hp.filter (fun x => decide (x.t ≤ T))
  rw [f1, f2] at f3
  have e1 : out = l.take n := srt_unique ho (hs.sublist (List.take_sublist n l)) f3.symm
  refine ⟨e1, ?_⟩
  have h5 : (l.take n ++ l.drop n).Perm (l.take n ++ L') := by rw [List.take_append_drop]; rw [e1] at hp; exact hp
  exact ((List.perm_append_left_iff _).1 h5).symm
/-- out has gone by the time T, e is on top of L if ok -/
structure Gone (L0 out L' : List En) (T : Int) : Prop where
  srt : Srt out
  le : ∀ a ∈ out, ∀ x ∈ L', le a x
  perm : L0.Perm (out ++ L')
  time : ∀ a ∈ out, a.t ≤ T
theorem Gone.next {L0 out L' L2 : List En} {T : Int} (h : Gone L0 out L' T) (hh : IsHeap L') (hz : 0 < L'.length) (h1 : L'.Perm (top L' :: L2)) (ht : (top L').t ≤ T) : Gone L0 (out ++ [top L']) L2 T := by
  have htop : top L' ∈ L' := h1.mem_iff.2 List.mem_cons_self
  have hmem : ∀ x ∈ L2, x ∈ L' := fun x hx => h1.mem_iff.2 (List.mem_cons_of_mem _ hx)
  refine ⟨?_, ?_, ?_, ?_⟩
  · rw [Srt, List.pairwise_append]
    refine ⟨h.srt, by simp, fun a ha b hb => ?_⟩
    simp only [List.mem_singleton] at hb
    subst hb
    exact h.le a ha _ htop
  · intro a ha x hx
    rcases List.mem_append.1 ha with ha | ha
    · exact h.le a ha x (hmem x hx)
    · simp only [List.mem_singleton] at ha
      subst ha
      exact root_mem hh (top_get hz) x (hmem x hx)
  · refine h.perm.trans ?_
    rw [List.append_assoc]
    exact h1.append_left _
  · intro a ha
    rcases List.mem_append.1 ha with ha | ha
    · exact h.time a ha
    · simp only [List.mem_singleton] at ha
      subst ha; exact ht
theorem heap_left {L : List En} {T : Int} (hh : IsHeap L) (h : L.length = 0 ∨ ¬ (top L).t ≤ T) : ∀ x ∈ L, ¬ x.t ≤ T := by
  intro x hx
  have hz : 0 < L.length := List.length_pos_of_mem hx
  rcases h with h | h
  · omega
  · have := le_time (root_mem hh (top_get hz) x hx)
    omega
end HeapP
namespace HB
theorem Only.grown {p g : Nat} {w w1 w2 : World} {row : Option Nat} (h : Only p g w w1) (hg : w1.grownBy w2 row) (hr : ∀ k, row = some k → w.heap.size ≤ k) : Only p g w w2 :=
  ⟨hg.os.trans h.os, hg.tape.trans h.tape, hg.output.trans h.output, Nat.le_trans h.size hg.size, fun k hk h1 h2 => (hg.block k (by have := h.size; omega) (fun hh => by have := hr k hh.symm; omega)).trans (h.block k hk h1 h2),
   fun hp o ho => by
     have := rest_block (o := o) (hg.block p (Nat.lt_of_lt_of_le hp h.size) (fun hh => by have := hr p hh.symm; omega))
     exact ⟨this.1.trans (h.rest hp o ho).1, this.2.trans (h.rest hp o ho).2⟩⟩
end HB
def URel (p g : Nat) (L0 : List En) (T : Int) (w : World) (o pe ok : Value) (wr : World) : Prop :=
  ∃ (out L' : List En) (q : Nat), pe = .pointer (some ⟨q, 0, none⟩) ∧ ok = .bool (decide (0 < L'.length)) ∧ lenV o = out.length ∧ Gone L0 out L' T ∧ IsHeap L' ∧ Hp wr p g L' ∧ Own wr w.heap.size 70 3 ent o out ∧
    Trio wr q (.int .i64 (top L').t) (.int .i64 (top L').k) (.int .i64 (top L').i) ∧ (∀ k, o.ownBlock = some k → k ≠ q) ∧ w.heap.size ≤ q ∧ Only p g w wr
def UntilPost (p g : Nat) (L : List En) (T : Int) (w : World) (e : Ending) (w' : World) : Prop :=
  ∃ v out L', e = .returned v ∧ Own w' w.heap.size 70 3 ent v out ∧ Hp w' p g L' ∧ IsHeap L' ∧ Gone L out L' T ∧ (∀ x ∈ L', ¬ x.t ≤ T) ∧ Only p g w w'
set_option maxRecDepth 100000 in
set_option maxHeartbeats 8000000 in
theorem heap_until (p g N : Nat) (L : List En) (T : Int) (w : World) (h : Hp w p g L) (hh : IsHeap L) (hl : L.length = N) (hn : N ≤ 1000000) :
    Calls Try.prog 64 #[.pointer (some ⟨p, 0, none⟩), .int .i64 T] w (UntilPost p g L T w) := by
  have HP0 := hide h
  have HI0 := hide hh
  have Hl := hide hl
  have hpl := h.pl
  have hgl := h.gl
  have HPK := hide (heap_peek p g L.length L w h rfl (by omega))
  clear h hh hl
  go_enter Try.func64, Try.ntmps64
  go_wp2_with (go_at_call 40; refine (HPK.out).mono ?_; rintro e w1 ⟨rfl, hb1⟩; have HB1 := hide hb1; clear hb1)
  have HP3 := hide (HP0.out.below (HB1.out.alloc HB1.out.size (.cells #[.int .i64 (top L).t, .int .i64 (top L).k, .int .i64 (top L).i] 70)))
  have HT3 := hide (Trio.new w1 70 (.int .i64 (top L).t) (.int .i64 (top L).k) (.int .i64 (top L).i))
  have HO3 := hide (Only.of_below (p := p) (g := g) (HB1.out.alloc HB1.out.size (.cells #[.int .i64 (top L).t, .int .i64 (top L).k, .int .i64 (top L).i] 70)))
  have hqz := HB1.out.size
  clear HPK HB1
  generalize w1.alloc (.cells #[.int .i64 (top L).t, .int .i64 (top L).k, .int .i64 (top L).i] 70) = w3 at *
  generalize w1.heap.size = q0 at *
  go_loopw [5, 6, 7] (fun o pe ok wr => URel p g L T w o pe ok wr) (fun o _ _ _ => N - lenV o)
  case atStart => exact ⟨[], L, q0, rfl, rfl, rfl, ⟨by simp [Srt], by simp, by simp, by simp⟩, HI0.out, HP3.out, Own.nil _ _ _ _ _, HT3.out, fun k hk => (by cases hk), hqz, HO3.out⟩
  case round =>
    obtain ⟨out, L', q, rfl, rfl, hlo, hpp, hih, hp', hown, htr, hkq, hq, hon⟩ := hrel
    have HPQ := hide hpp
    have HIH := hide hih
    have HP := hide hp'
    have HO := hide hown
    have HT := hide htr
    have HKQ := hide hkq
    have HON := hide hon
    have HLO := hide hlo
    have hlen := hpp.perm.length_eq
    simp only [List.length_append] at hlen
    rw [Hl.out] at hlen
    have hlen2 : out.length + L'.length ≤ N := Nat.le_of_eq hlen.symm
    have hbw := hon.size
    clear HP3 HT3 HO3 HP0 HI0 hlen hpp hih hp' hown hkq hon hlo
    obtain ⟨t0, t1, t2, f0, f1, f2, hqs⟩ := htr
    by_cases hz : L'.length = 0 ∨ ¬ (top L').t ≤ T
    · have HZ := hide hz
      have hd : decide (0 < L'.length) = false ∨ (decide (0 < L'.length) = true ∧ ¬ (top L').t ≤ T) := by
        rcases Nat.eq_zero_or_pos L'.length with h0 | h0
        · left; simpa using List.eq_nil_of_length_eq_zero h0
        · right; refine ⟨by simpa using h0, ?_⟩; rcases hz with h | h; omega; exact h
      clear hz
      have HFIN := hide (show UntilPost p g L T w (.returned u5) wr from ⟨_, out, L', rfl, HO.out, HP.out, HIH.out, HPQ.out, heap_left HIH.out HZ.out, HON.out⟩)
      rcases hd with hd | ⟨hd, hd2⟩
      · generalize decide (0 < L'.length) = bb at *
        subst hd
        go_wp2_with fail
        go_ret
        exact HFIN.out
      · generalize decide (0 < L'.length) = bb at *
        subst hd
        go_wp2_with fail
        go_ret
        exact HFIN.out
    · have hz1 : 0 < L'.length := by omega
      have hz2 : (top L').t ≤ T := Decidable.of_not_not (fun h => hz (.inr h))
      have hd : decide (0 < L'.length) = true := by simpa using hz1
      have HZ := hide hz1
      have hpo := heap_pop p g L'.length L' wr HP.out HIH.out rfl (by omega)
      rw [hd] at hpo
      have HPO := hide hpo
      have HNE := hide (show some p ≠ u5.ownBlock ∧ some g ≠ u5.ownBlock ∧ some q ≠ u5.ownBlock ∧ (∀ k, u5.ownBlock = some k → w.heap.size ≤ k ∧ k < wr.heap.size) from ⟨fun h => by have := HO.out.row.lt _ h.symm; omega, fun h => by have := HO.out.row.lt _ h.symm; omega, fun h => HKQ.out _ h.symm rfl, HO.out.row.lt⟩)
      rw [hd]
      clear hz hpo hd hz1
      go_wp2_with (first
        | (go_at_call 63; refine (HPO.out).mono ?_; rintro e8 w8 ⟨rfl, L8, hp8, hi8, h80, h81, ho8⟩;
            have HP8 := hide hp8; have HI8 := hide hi8; have H81 := hide (h81 HZ.out); have HO8 := hide ho8; have hz8 := ho8.size; clear hp8 hi8 h80 h81 ho8;
            have HT8 := hide (HT.out.only HO8.out (by omega) (by omega));
            have HW8 := hide (HO.out.only HO8.out (fun k hk => ⟨fun h => HNE.out.1 (by rw [hk, h]), fun h => HNE.out.2.1 (by rw [hk, h])⟩));
            obtain ⟨q0', q1', q2', -, -, -, hq8⟩ := HT8.out;
            clear t0 t1 t2 f0 f1 f2)
        | (at_builtin; refine pushG rfl _ _ 64 rfl Try.underlying64 Ent.info rfl (by omega) (by omega) rfl (HW8.out.alloc _) (top L') ⟨_, 0, none⟩ 1 rfl rfl (ent_new _ _ _ _ _ _ rfl) (ent_one _) (by omega) (by simp; omega) ?_; intro g6 cap6 w6 hown6 hgr6 hk6 hl6;
            have hgr7 : (w8.alloc (.cells #[.int .i64 (top L').t, .int .i64 (top L').k, .int .i64 (top L').i] 70)).grownBy w6 u5.ownBlock := hgr6;
            have hk7 : u5.ownBlock = some g6 ∨ g6 = (w8.alloc (.cells #[.int .i64 (top L').t, .int .i64 (top L').k, .int .i64 (top L').i] 70)).heap.size := hk6;
            have HP6 := hide ((HP8.out.below ((Below.refl _ _).alloc (Nat.le_refl _) (.cells #[.int .i64 (top L').t, .int .i64 (top L').k, .int .i64 (top L').i] 70))).grown hgr7 HNE.out.1 HNE.out.2.1);
            have HT6 := hide ((HT8.out.below ((Below.refl _ _).alloc (Nat.le_refl _) (.cells #[.int .i64 (top L').t, .int .i64 (top L').k, .int .i64 (top L').i] 70))).grown hgr7 HNE.out.2.2.1);
            have HO6 := hide ((((HON.out.trans HO8.out (.inl rfl)).alloc (.cells #[.int .i64 (top L').t, .int .i64 (top L').k, .int .i64 (top L').i] 70)).grown hgr7 (fun k hk => (HNE.out.2.2.2 k hk).1)) : Only p g w w6);
            have HW6 := hide hown6; have hz6 := hgr7.size; have HK7 := hide hk7;
            clear q0' q1' q2';
            obtain ⟨q0', q1', q2', -, -, -, hq6⟩ := HT6.out;
            clear hown6 hgr6 hgr7 hk6 hk7)
        | (go_at_call 40; refine (heap_peek p g L8.length L8 _ (HP6.out.below ((Below.refl _ _).alloc (Nat.le_refl _) (.cells #[.int .i64 (top L').t, .int .i64 (top L').k, .int .i64 (top L').i] 70))) rfl (by have := H81.out.length_eq; simp at this; omega)).mono ?_; rintro e9 w9 ⟨rfl, hb9⟩;
            have HB9 := hide hb9; clear hb9;
            have HT9 := hide ((Trio.new w6 70 (.int .i64 (top L').t) (.int .i64 (top L').k) (.int .i64 (top L').i)).below HB9.out);
            obtain ⟨u0, u1, u2, v0, v1, v2, hu⟩ := HT9.out))
      go_roundw
      case rel =>
        have hg6 := HW6.out.row.lt g6 rfl
        have hne1 : some p ≠ some w6.heap.size := fun h => by injection h with h; omega
        have hne2 : some g ≠ some w6.heap.size := fun h => by injection h with h; omega
        refine ⟨out ++ [top L'], L8, w6.heap.size, rfl, rfl, by simp [lenV], HPQ.out.next HIH.out HZ.out H81.out hz2, HI8.out, ((HP6.out.below ((Below.refl _ _).alloc (Nat.le_refl _) (.cells #[.int .i64 (top L').t, .int .i64 (top L').k, .int .i64 (top L').i] 70))).below HB9.out).grown (grown_set3 _ _ _ _ _) hne1 hne2, ?_, HT9.out.stored _ _ _, ?_, by omega, ?_⟩
        · refine (((HW6.out.below ((Below.refl _ _).alloc (Nat.le_refl _) (.cells #[.int .i64 (top L').t, .int .i64 (top L').k, .int .i64 (top L').i] 70))).below HB9.out).grown (grown_set3 _ _ _ _ _) (.inr fun h => ?_))
          simp [Value.ownBlock] at h; omega
        · intro k hk
          simp [Value.ownBlock] at hk; omega
        · refine ((HO6.out.alloc (.cells #[.int .i64 (top L').t, .int .i64 (top L').k, .int .i64 (top L').i] 70)).then_ HB9.out).grown (grown_set3 _ _ _ _ _) (fun k hk => by injection hk with hk; have := HO6.out.size; omega)
      case measure =>
        have hlo := HLO.out
        show N - (out.length + 1) < N - lenV u5
        have hz3 := HZ.out
        omega
end Go.Proofs.Ytknmpfimnbenjaa
