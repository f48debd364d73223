/-
  The walks of heap.Make, heap.Sorted.
-/
import Derived.Test.YtknmpfimnbenjaaHeapEq
namespace Go.Proofs.Ytknmpfimnbenjaa
open Go.RowKit HB HeapP
set_option linter.unusedVariables false
set_option linter.unusedSimpArgs false
namespace HB
/-- a new heap over a row of the call's own -/
theorem Hp.boxed {w : World} {v : Value} {L : List En} {base : Nat} (h : Own w base 70 3 ent v L) (hb : base ≤ w.heap.size) :
    ∃ g, Hp (w.alloc (.cells #[v] 85)) w.heap.size g L ∧ base ≤ g ∧ g ≤ w.heap.size := by
  have hc : (w.alloc (.cells #[v] 85)).cell? ⟨w.heap.size, 0, none⟩ = some v := by
    rw [cell_of_row _ w.heap.size 0 #[v] 85 (0, 0) (heap_alloc_new w _)]; simp
  have hf : (w.alloc (.cells #[v] 85)).frozen? ⟨w.heap.size, 0, none⟩ = false := by
    unfold World.frozen?; rw [heap_alloc_new w _]; simp
  have ho := (h.alloc (.cells #[v] 85)).small (Nat.zero_le _)
  rcases h.2 with ⟨hv, h0⟩ | ⟨g, cap, cur, hv, h1, h2, h3, h4⟩
  · have hL : L = [] := List.eq_nil_of_length_eq_zero h0
    exact ⟨w.heap.size, ⟨v, hc, hf, by simp, ho, .inl ⟨hv, hL, rfl⟩⟩, hb, Nat.le_refl _⟩
  · have hg : g < w.heap.size := (Array.getElem?_eq_some_iff.1 h2).1
    exact ⟨g, ⟨v, hc, hf, by simp, ho, .inr ⟨cap, hv, h3, by omega, by simp; omega⟩⟩, h1, Nat.le_of_lt hg⟩
end HB
def MadePost (l : List En) (w : World) (e : Ending) (w' : World) : Prop :=
  ∃ p g L', e = .returned (.pointer (some ⟨p, 0, none⟩)) ∧ Hp w' p g L' ∧ IsHeap L' ∧ L'.Perm l ∧ w.heap.size ≤ p ∧ w.heap.size ≤ g ∧ Below w.heap.size w w'
set_option maxRecDepth 100000 in
set_option maxHeartbeats 4000000 in
theorem heap_make (A : Option Addr) (n c B : Nat) (l : List En) (w : World) (hr : Rd w B 3 A n (l.flatMap ent)) (hB : B ≤ w.heap.size) (hl : l.length = n) (hn : n ≤ 1000000) :
    Calls Try.prog 36 #[.slice A n c] w (MadePost l w) := by
  have Hl := hide hl
  have HR := hide hr
  clear hl hr
  go_enter Try.func36, Try.ntmps36
  go_upto_region 2 with (at_builtin; refine pushAll rfl _ _ 64 rfl Try.underlying64 Ent.info rfl (by omega) (by omega) rfl (Own.nil _ w.heap.size _ _ _) l B A n c rfl Hl.out HR.out (ent_ones _) (by simp) (by omega) (Nat.le_refl _) ?_; intro v1 w1 hown1 hb1; rw [List.nil_append] at hown1; have HO1 := hide hown1; have HB1 := hide hb1; obtain ⟨A1, c1, rfl, hc1, -⟩ := hown1.shape; clear hown1 hb1)
  obtain ⟨g, hp1, hg1, hg2⟩ := Hp.boxed HO1.out HB1.out.size
  have HP1 := hide hp1
  have HBB := hide (HB1.out.alloc HB1.out.size (.cells #[.slice A1 l.length c1] 85))
  have hpz := HB1.out.size
  have HO1c := hp1.sl
  generalize w1.alloc (.cells #[.slice A1 l.length c1] 85) = w2 at *
  generalize w1.heap.size = p at *
  obtain ⟨A2, c2, cp2, hc2⟩ := HO1c
  rw [Hl.out] at cp2 hc2
  obtain ⟨h, hh⟩ : ∃ h, h = n / 2 := ⟨_, rfl⟩
  have e1 : (n : Int).tdiv 2 = (h : Int) := by rw [Int.tdiv_eq_ediv_of_nonneg (by omega)]; omega
  have e2 : IntKind.i64.wrap (h : Int) = (h : Int) := IntWalk.i64_in _ (by omega)
  have e3 : IntKind.i64.wrap ((h : Int) - 1) = (h : Int) - 1 := IntWalk.i64_in _ (by omega)
  have HFR := hide (show From l h from fun j hj hs x y hx hy => by have := (List.getElem?_eq_some_iff.1 hx).1; rw [Hl.out] at this; omega)
  clear hp1 HO1
  go_wp2_with fail
  go_loopw [4] (fun si wr => ∃ (k : Nat) (L' : List En), si = .int .i64 ((k : Int) - 1) ∧ k ≤ h ∧ From L' k ∧ Hp wr p g L' ∧ L'.Perm l ∧ Only p g w2 wr) (fun si _ => (intOf si + 1).toNat)
  case atStart => exact ⟨h, l, congrArg (Value.int .i64) (by omega), Nat.le_refl _, HFR.out, HP1.out, List.Perm.refl _, Only.refl _ _ _⟩
  case round =>
    obtain ⟨k, L', rfl, hk, hfr, hp', hpm, hon⟩ := hrel
    have HF := hide hfr
    have HPM := hide hpm
    have HP := hide hp'
    have HON := hide hon
    clear cp2 hc2
    rcases k with _ | q
    · clear hfr hp' hpm hon
      go_wp2_with fail
      go_ret
      exact ⟨p, g, L', rfl, HP.out, HF.out, HPM.out, hpz, hg1, HBB.out.trans (HON.out.below hpz hg1 HBB.out.size)⟩
    · have HD := hide (heap_down p g q q n L' wr hp' (down_start hfr) (Nat.le_refl _) (hpm.length_eq.trans Hl.out) hn (by omega))
      have q0 : (0 : Int) ≤ (q : Int) := by omega
      clear hfr hp' hpm hon
      go_wp2_with (go_at_call 61; refine (HD.out).mono ?_; rintro e w5 ⟨rfl, L5, hp5, hf5, hm5, ho5⟩; have HP5 := hide hp5; have HF5 := hide hf5; have HM5 := hide hm5; have HO5 := hide ho5; clear hp5 hf5 hm5 ho5)
      go_roundw
      case rel => exact ⟨q, L5, rfl, by omega, HF5.out, HP5.out, HM5.out.trans HPM.out, HON.out.trans HO5.out (.inl rfl)⟩
      case measure => simp [intOf]
def SortPost (l : List En) (w : World) (e : Ending) (w' : World) : Prop :=
  (∃ v s, e = .returned v ∧ Own w' w.heap.size 70 3 ent v s ∧ Srt s ∧ s.Perm l) ∧ Below w.heap.size w w'
namespace HeapP
/-- out has been popped, then the head e (if ok), L' is left -/
structure Popped (l out : List En) (ok : Bool) (e : En) (L' : List En) : Prop where
  srt : Srt (out ++ (if ok then [e] else []))
  le : ∀ a ∈ out ++ (if ok then [e] else []), ∀ x ∈ L', le a x
  perm : l.Perm (out ++ (if ok then [e] else []) ++ L')
  none : ok = false → L' = []
theorem Popped.next {l out L' L2 : List En} {e : En} (h : Popped l out true e L') (hh : IsHeap L') (h0 : L'.length = 0 → L2 = []) (h1 : 0 < L'.length → L'.Perm (top L' :: L2)) : Popped l (out ++ [e]) (decide (0 < L'.length)) (top L') L2 := by
  have hs := h.srt
  have hl := h.le
  have hp := h.perm
  simp only [if_true] at hs hl hp
  rcases Nat.eq_zero_or_pos L'.length with hz | hz
  · have hd : decide (0 < L'.length) = false := by simp; exact List.eq_nil_of_length_eq_zero hz
    have hL : L' = [] := List.eq_nil_of_length_eq_zero hz
    rw [hd]
    refine ⟨by simpa using hs, ?_, ?_, fun _ => h0 hz⟩
    · rw [h0 hz]; intro a _ x hx; simp at hx
    · rw [h0 hz]; rw [hL] at hp; simpa using hp
  · have hd : decide (0 < L'.length) = true := by simpa using hz
    have hp2 := h1 hz
    rw [hd]
    have hmem : ∀ x ∈ L2, x ∈ L' := fun x hx => hp2.mem_iff.2 (List.mem_cons_of_mem _ hx)
    have htop : top L' ∈ L' := hp2.mem_iff.2 List.mem_cons_self
    refine ⟨?_, ?_, ?_, fun h => (by cases h)⟩
    · simp only [if_true]
      rw [Srt, List.pairwise_append]
      refine ⟨hs, by simp, fun a ha b hb => ?_⟩
      simp only [List.mem_singleton] at hb
      subst hb
      exact hl a ha _ htop
    · simp only [if_true]
      intro a ha x hx
      rcases List.mem_append.1 ha with ha | ha
      · exact hl a ha x (hmem x hx)
      · simp only [List.mem_singleton] at ha
        subst ha
        exact root_mem hh (top_get hz) x (hmem x hx)
    · simp only [if_true]
      refine hp.trans ?_
      rw [List.append_assoc (out ++ [e])]
      exact hp2.append_left _
end HeapP
end Go.Proofs.Ytknmpfimnbenjaa
