/-
  The calendar, plainly: a map and a row in order that say the same; a heap that has all of them, and what is stale.
-/
import Derived.Test.YtknmpfimnbenjaaCalKey
import Derived.Test.YtknmpfimnbenjaaHeapPlain
import Derived.Test.YtknmpfimnbenjaaHeapPop
namespace Go.Proofs.Ytknmpfimnbenjaa
open Go.RowKit HB HeapP Go.Maps
set_option linter.unusedVariables false
set_option linter.unusedSimpArgs false
namespace CalP
/-- is it the thing of a kind and a number? -/
def isK (k i : Int) (x : En) : Bool := decide (x.k = k) && decide (x.i = i)
theorem isK_iff {k i : Int} {x : En} : isK k i x = true ↔ x.k = k ∧ x.i = i := by simp [isK]
/-- a row without the thing -/
def wo (l : List En) (k i : Int) : List En := l.filter fun x => !isK k i x
theorem wo_mem {l : List En} {k i : Int} {x : En} : x ∈ wo l k i ↔ x ∈ l ∧ ¬ (x.k = k ∧ x.i = i) := by
  unfold wo
  rw [List.mem_filter]
  simp only [Bool.not_eq_true', Bool.eq_false_iff, ne_eq, isK_iff]
/-- no thing twice -/
abbrev Uq (l : List En) : Prop := l.Pairwise fun a b => ¬ (a.k = b.k ∧ a.i = b.i)
def wfE (e : En) : Prop := inI e.t ∧ inI e.k ∧ inI e.i
theorem Uq.same {l : List En} (h : Uq l) {a b : En} (ha : a ∈ l) (hb : b ∈ l) (hk : a.k = b.k) (hi : a.i = b.i) : a = b := by
  induction l with
  | nil => simp at ha
  | cons x l ih =>
    obtain ⟨h1, h2⟩ := List.pairwise_cons.1 h
    rcases List.mem_cons.1 ha with e1 | ha'
    · rcases List.mem_cons.1 hb with e2 | hb'
      · rw [e1, e2]
      · subst e1; exact absurd ⟨hk, hi⟩ (h1 b hb')
    · rcases List.mem_cons.1 hb with e2 | hb'
      · subst e2; exact absurd ⟨hk.symm, hi.symm⟩ (h1 a ha')
      · exact ih h2 ha' hb'
theorem Uq.perm {l l' : List En} (h : Uq l) (hp : l.Perm l') : Uq l' := (hp.pairwise_iff (fun {a b} (h : ¬ (a.k = b.k ∧ a.i = b.i)) h' => h ⟨h'.1.symm, h'.2.symm⟩)).1 h
theorem wo_none {l : List En} {k i : Int} (h : ∀ x ∈ l, ¬ (x.k = k ∧ x.i = i)) : wo l k i = l :=
  List.filter_eq_self.2 fun x hx => by
    have := h x hx
    cases hh : isK k i x with
    | false => rfl
    | true => exact absurd (isK_iff.1 hh) this
theorem wo_at {l : List En} (hu : Uq l) {q : Nat} {x : En} (hx : l[q]? = some x) : wo l x.k x.i = l.take q ++ l.drop (q + 1) := by
  obtain ⟨hq, he⟩ := List.getElem?_eq_some_iff.1 hx
  have h1 : l = l.take q ++ x :: l.drop (q + 1) := by
    have := (List.take_append_drop q l).symm
    rwa [List.drop_eq_getElem_cons hq, he] at this
  have hu2 := hu
  rw [h1, Uq, List.pairwise_append, List.pairwise_cons] at hu2
  obtain ⟨-, ⟨h3, -⟩, h4⟩ := hu2
  conv => lhs; rw [h1]
  unfold wo
  rw [List.filter_append, List.filter_cons]
  have hxx : (!isK x.k x.i x) = false := by simp [isK]
  simp only [hxx, Bool.false_eq_true, if_false]
  rw [List.filter_eq_self.2, List.filter_eq_self.2]
  · intro y hy
    cases hh : isK x.k x.i y with
    | false => rfl
    | true => have := isK_iff.1 hh; exact absurd ⟨this.1.symm, this.2.symm⟩ (h3 y hy)
  · intro y hy
    cases hh : isK x.k x.i y with
    | false => rfl
    | true => have := isK_iff.1 hh; exact absurd this (h4 y hy x (List.mem_cons_self))
theorem wo_length {l : List En} (hu : Uq l) (k i : Int) : (wo l k i).length + (if ∃ e ∈ l, e.k = k ∧ e.i = i then 1 else 0) = l.length := by
  by_cases h : ∃ e ∈ l, e.k = k ∧ e.i = i
  · obtain ⟨e, he, rfl, rfl⟩ := h
    obtain ⟨q, hq⟩ := List.mem_iff_getElem?.1 he
    have hl := (List.getElem?_eq_some_iff.1 hq).1
    rw [if_pos ⟨e, he, rfl, rfl⟩, wo_at hu hq, List.length_append, List.length_take, List.length_drop]
    omega
  · rw [if_neg h, wo_none (fun x hx hk => h ⟨x, hx, hk⟩)]
    rfl
theorem wo_srt {l : List En} (h : Srt l) (k i : Int) : Srt (wo l k i) := h.sublist List.filter_sublist
theorem wo_uq {l : List En} (h : Uq l) (k i : Int) : Uq (wo l k i) := h.sublist List.filter_sublist
/-- the map and the row say the same -/
structure Cd (D : DataW Unit) (l : List En) : Prop where
  has_ : ∀ k i, inI k → inI i → (Maps.has D (kl k i) = true ↔ ∃ e ∈ l, e.k = k ∧ e.i = i)
  at_ : ∀ e ∈ l, ∀ z, D.atKey (kl e.k e.i) z = .lit (.int .i64 e.t)
  size : Maps.size D = l.length
theorem Cd.empty : Cd (.map []) [] := ⟨fun k i _ _ => by simp [Maps.has], fun e he => by simp at he, rfl⟩
theorem Cd.perm {D : DataW Unit} {l l' : List En} (h : Cd D l) (hp : l.Perm l') : Cd D l' :=
  ⟨fun k i hk hi => by rw [h.has_ k i hk hi]; exact ⟨fun ⟨e, he, hh⟩ => ⟨e, hp.mem_iff.1 he, hh⟩, fun ⟨e, he, hh⟩ => ⟨e, hp.mem_iff.2 he, hh⟩⟩,
   fun e he => h.at_ e (hp.mem_iff.2 he), by rw [h.size, hp.length_eq]⟩
theorem Cd.del {D : DataW Unit} {l : List En} (h : Cd D l) (ht : Maps.Tidy D) (hu : Uq l) (hw : ∀ e ∈ l, wfE e) {k i : Int} (hk : inI k) (hi : inI i) : Cd (D.del (kl k i)) (wo l k i) := by
  refine ⟨fun k' i' hk' hi' => ?_, fun e he z => ?_, ?_⟩
  · by_cases hne : kl k' i' = kl k i
    · obtain ⟨rfl, rfl⟩ := kl_inj hk' hi' hk hi hne
      rw [Maps.has_del_same]
      constructor
      · intro hh; cases hh
      · rintro ⟨e, he, hh⟩
        exact absurd hh (wo_mem.1 he).2
    · rw [Maps.has_del_other hne, h.has_ k' i' hk' hi']
      constructor
      · rintro ⟨e, he, rfl, rfl⟩
        refine ⟨e, wo_mem.2 ⟨he, ?_⟩, rfl, rfl⟩
        rintro ⟨rfl, rfl⟩
        exact hne rfl
      · rintro ⟨e, he, hh⟩
        exact ⟨e, (wo_mem.1 he).1, hh⟩
  · obtain ⟨h1, h2⟩ := wo_mem.1 he
    have hwe := hw e h1
    have hne : kl e.k e.i ≠ kl k i := fun hh => h2 (kl_inj hwe.2.1 hwe.2.2 hk hi hh)
    rw [Maps.atKey_del_other hne]
    exact h.at_ e h1 z
  · have h1 := Maps.size_del ht (k := kl k i)
    have h2 := wo_length hu k i
    rw [h.size] at h1
    by_cases hh : ∃ e ∈ l, e.k = k ∧ e.i = i
    · rw [if_pos ((h.has_ k i hk hi).2 hh)] at h1
      rw [if_pos hh] at h2
      omega
    · rw [if_neg (fun hhh => hh ((h.has_ k i hk hi).1 hhh))] at h1
      rw [if_neg hh] at h2
      omega
theorem Cd.put {D : DataW Unit} {l : List En} (h : Cd D l) (ht : Maps.Tidy D) (hu : Uq l) (hw : ∀ e ∈ l, wfE e) {e : En} (he : wfE e) : Cd (D.put (kl e.k e.i) (.lit (.int .i64 e.t))) (e :: wo l e.k e.i) := by
  have hkey := kl_isKey he.2.1 he.2.2
  refine ⟨fun k' i' hk' hi' => ?_, fun x hx z => ?_, ?_⟩
  · by_cases hne : kl k' i' = kl e.k e.i
    · obtain ⟨rfl, rfl⟩ := kl_inj hk' hi' he.2.1 he.2.2 hne
      rw [Maps.has_put_same ht.isMap hkey]
      exact ⟨fun _ => ⟨e, List.mem_cons_self, rfl, rfl⟩, fun _ => rfl⟩
    · rw [Maps.has_put_other hne, h.has_ k' i' hk' hi']
      constructor
      · rintro ⟨x, hx, rfl, rfl⟩
        refine ⟨x, List.mem_cons_of_mem _ (wo_mem.2 ⟨hx, ?_⟩), rfl, rfl⟩
        rintro ⟨h1, h2⟩
        exact hne (by rw [h1, h2])
      · rintro ⟨x, hx, rfl, rfl⟩
        rcases List.mem_cons.1 hx with rfl | hx
        · exact absurd rfl hne
        · exact ⟨x, (wo_mem.1 hx).1, rfl, rfl⟩
  · rcases List.mem_cons.1 hx with rfl | hx
    · exact Maps.atKey_put_same ht.isMap hkey _ z
    · obtain ⟨h1, h2⟩ := wo_mem.1 hx
      have hwe := hw x h1
      have hne : kl x.k x.i ≠ kl e.k e.i := fun hh => h2 (kl_inj hwe.2.1 hwe.2.2 he.2.1 he.2.2 hh)
      rw [Maps.atKey_put_other hne]
      exact h.at_ x h1 z
  · rw [Maps.size_put ht, List.length_cons]
    have h2 := wo_length hu e.k e.i
    by_cases hh : ∃ x ∈ l, x.k = e.k ∧ x.i = e.i
    · rw [if_pos ((h.has_ _ _ he.2.1 he.2.2).2 hh), h.size]
      rw [if_pos hh] at h2
      omega
    · rw [if_neg (fun hhh => hh ((h.has_ _ _ he.2.1 he.2.2).1 hhh)), h.size]
      rw [if_neg hh] at h2
      omega
/-- the heap, and the row of what is to happen -/
structure Ch (L l : List En) : Prop where
  heap : IsHeap L
  srt : Srt l
  uq : Uq l
  sub : ∀ e ∈ l, e ∈ L
  wf : ∀ e ∈ L, wfE e
theorem Ch.wfl {L l : List En} (h : Ch L l) : ∀ e ∈ l, wfE e := fun e he => h.wf e (h.sub e he)
/-- what the top is, if it is live: the first of the row -/
theorem Ch.live {L l : List En} (h : Ch L l) (hn : 0 < L.length) (hm : top L ∈ l) : ∃ t, l = top L :: t := by
  cases l with
  | nil => simp at hm
  | cons x t =>
    refine ⟨t, ?_⟩
    have h1 : le (top L) x := root_mem h.heap (top_get hn) x (h.sub x List.mem_cons_self)
    rcases List.mem_cons.1 hm with hh | hh
    · rw [hh]
    · rw [le_antisymm h1 ((List.pairwise_cons.1 h.srt).1 _ hh)]
/-- a stale top goes -/
theorem Ch.stale {L L' l : List En} (h : Ch L l) (hh : IsHeap L') (hp : L.Perm (top L :: L')) (hm : top L ∉ l) : Ch L' l :=
  ⟨hh, h.srt, h.uq, fun e he => by
    rcases List.mem_cons.1 (hp.mem_iff.1 (h.sub e he)) with rfl | h1
    · exact absurd he hm
    · exact h1, fun e he => h.wf e (hp.mem_iff.2 (List.mem_cons_of_mem _ he))⟩
/-- the live top goes -/
theorem Ch.pop {L L' t : List En} (h : Ch L (top L :: t)) (hh : IsHeap L') (hp : L.Perm (top L :: L')) : Ch L' t ∧ t = wo (top L :: t) (top L).k (top L).i := by
  obtain ⟨h1, h2⟩ := List.pairwise_cons.1 h.uq
  have hne : ∀ e ∈ t, e ≠ top L := fun e he heq => h1 e he (by rw [heq]; exact ⟨rfl, rfl⟩)
  refine ⟨⟨hh, (List.pairwise_cons.1 h.srt).2, h2, fun e he => ?_, fun e he => h.wf e (hp.mem_iff.2 (List.mem_cons_of_mem _ he))⟩, ?_⟩
  · rcases List.mem_cons.1 (hp.mem_iff.1 (h.sub e (List.mem_cons_of_mem _ he))) with h3 | h3
    · exact absurd h3 (hne e he)
    · exact h3
  · have := wo_at h.uq (q := 0) (x := top L) rfl
    rw [this]; rfl
theorem Ch.drop {L l : List En} (h : Ch L l) (k i : Int) : Ch L (wo l k i) :=
  ⟨h.heap, wo_srt h.srt k i, wo_uq h.uq k i, fun e he => h.sub e (wo_mem.1 he).1, h.wf⟩
theorem uq_cons {l : List En} (hu : Uq l) (e : En) : Uq (e :: wo l e.k e.i) :=
  List.pairwise_cons.2 ⟨fun x hx hh => (wo_mem.1 hx).2 ⟨hh.1.symm, hh.2.symm⟩, wo_uq hu _ _⟩
theorem Ch.set {L L' l l' : List En} {e : En} (h : Ch L l) (he : wfE e) (hh : IsHeap L') (hp : L'.Perm (e :: L)) (hs : Srt l') (hl : l'.Perm (e :: wo l e.k e.i)) : Ch L' l' := by
  refine ⟨hh, hs, (uq_cons h.uq e).perm hl.symm, fun x hx => ?_, fun x hx => ?_⟩
  · rcases List.mem_cons.1 (hl.mem_iff.1 hx) with rfl | h1
    · exact hp.mem_iff.2 List.mem_cons_self
    · exact hp.mem_iff.2 (List.mem_cons_of_mem _ (h.sub x (wo_mem.1 h1).1))
  · rcases List.mem_cons.1 (hp.mem_iff.1 hx) with rfl | h1
    · exact he
    · exact h.wf x h1
/-- it was set so already -/
theorem Ch.same {L l l' : List En} {e : En} (h : Ch L l) (hm : e ∈ l) (hs : Srt l') (hl : l'.Perm (e :: wo l e.k e.i)) : Ch L l' ∧ l'.Perm l := by
  obtain ⟨q, hq⟩ := List.mem_iff_getElem?.1 hm
  obtain ⟨hlt, heq⟩ := List.getElem?_eq_some_iff.1 hq
  have h1 : (e :: wo l e.k e.i).Perm l := by
    rw [wo_at h.uq hq]
    have h2 : l = l.take q ++ e :: l.drop (q + 1) := by
      have := (List.take_append_drop q l).symm
      rwa [List.drop_eq_getElem_cons hlt, heq] at this
    conv => rhs; rw [h2]
    exact List.perm_middle.symm
  have h2 := hl.trans h1
  exact ⟨⟨h.heap, hs, h.uq.perm h2.symm, fun x hx => h.sub x (h2.mem_iff.1 hx), h.wf⟩, h2⟩
end CalP
end Go.Proofs.Ytknmpfimnbenjaa
