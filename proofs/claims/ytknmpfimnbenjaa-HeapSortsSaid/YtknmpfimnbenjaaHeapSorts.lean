/-
  The law HeapSorts holds: whatever the entries, the call returns true and turns nothing. No condition.
-/
import Derived.Test.YtknmpfimnbenjaaRows
import Derived.Test.YtknmpfimnbenjaaFrame
import Derived.Test.YtknmpfimnbenjaaHeapAlive
namespace Go.Proofs.Ytknmpfimnbenjaa
open Go.ChangeShapes Go.WideShapes Go.ChangeAt Go.RowKit HB HeapP
set_option linter.unusedVariables false
set_option linter.unusedSimpArgs false

def SortsQ (w : World) (e : Ending) (w' : World) : Prop := e = .returned (.bool true) ∧ Below w.heap.size w w'
set_option maxRecDepth 100000 in
set_option maxHeartbeats 8000000 in
theorem heapSorts_walk (A : Option Addr) (n c : Nat) (l : List En) (a b : En) (w : World) (hr : Rd w w.heap.size 3 A n (l.flatMap ent)) (hl : l.length = n) :
    Calls Try.prog 9 #[.slice A n c, .agg #[.int .i64 a.t, .int .i64 a.k, .int .i64 a.i], .agg #[.int .i64 b.t, .int .i64 b.k, .int .i64 b.i]] w (SortsQ w) := by
  by_cases hn : 100 < n
  · clear hr hl
    go_enter Try.func9, Try.ntmps9
    go_wp2_with fail
    go_ret
    exact ⟨rfl, ((Below.refl _ _).alloc (Nat.le_refl _) _).alloc (by simp) _⟩
  · have HA := hide (fun W (h : Below w.heap.size w W) => heap_sorted A n c w.heap.size l W (hr.below h) h.size hl (by omega))
    have HB := hide (fun W (h : Below w.heap.size w W) => ref_sorted6 A n c w.heap.size l W (hr.below h) h.size hl (by omega))
    have HL1 := hide (fun W => heap_less a b W)
    have HL2 := hide (fun W => ref_less a b W)
    have Hl := hide hl
    have hn2 : n ≤ 100 := by omega
    clear hr hl hn
    go_enter Try.func9, Try.ntmps9
    go_upto_region 3 with fail
    have HT1 := (Trio.new w 70 (.int .i64 a.t) (.int .i64 a.k) (.int .i64 a.i)).below ((Below.refl _ _).alloc (Nat.le_refl _) (.cells #[.int .i64 b.t, .int .i64 b.k, .int .i64 b.i] 70))
    have HT2 := Trio.new (w.alloc (.cells #[.int .i64 a.t, .int .i64 a.k, .int .i64 a.i] 70)) 70 (.int .i64 b.t) (.int .i64 b.k) (.int .i64 b.i)
    have HB0 := ((Below.refl w.heap.size w).alloc (Nat.le_refl _) (.cells #[.int .i64 a.t, .int .i64 a.k, .int .i64 a.i] 70)).alloc (by simp) (.cells #[.int .i64 b.t, .int .i64 b.k, .int .i64 b.i] 70)
    have hq : (w.alloc (.cells #[.int .i64 a.t, .int .i64 a.k, .int .i64 a.i] 70)).heap.size = w.heap.size + 1 := by simp
    rw [hq] at HT2
    generalize (w.alloc (.cells #[.int .i64 a.t, .int .i64 a.k, .int .i64 a.i] 70)).alloc (.cells #[.int .i64 b.t, .int .i64 b.k, .int .i64 b.i] 70) = w0 at *
    obtain ⟨a0, a1, a2, -, -, -, -⟩ := HT1
    obtain ⟨b0, b1, b2, -, -, -, -⟩ := HT2
    clear hq
    go_region_held3 (fun w' => w'.cell? ⟨w.heap.size, 0, none⟩ = some (.int .i64 a.t) ∧ w'.cell? ⟨w.heap.size, 1, none⟩ = some (.int .i64 a.k) ∧ w'.cell? ⟨w.heap.size, 2, none⟩ = some (.int .i64 a.i) ∧ w'.cell? ⟨w.heap.size + 1, 0, none⟩ = some (.int .i64 b.t) ∧ w'.cell? ⟨w.heap.size + 1, 1, none⟩ = some (.int .i64 b.k) ∧ w'.cell? ⟨w.heap.size + 1, 2, none⟩ = some (.int .i64 b.i) ∧ Below w.heap.size w w')
      (first | (go_split_ands; with_reducible exact ⟨hold1 hbF ‹_›, hold1 hbF ‹_›, hold1 hbF ‹_›, hold1 hbF ‹_›, hold1 hbF ‹_›, hold1 hbF ‹_›, ‹Below w.heap.size w _›.trans (hbF.mono ‹Below w.heap.size w _›.size)⟩) | (go_split_ands; with_reducible exact ⟨hold1 hbE ‹_›, hold1 hbE ‹_›, hold1 hbE ‹_›, hold1 hbE ‹_›, hold1 hbE ‹_›, hold1 hbE ‹_›, ‹Below w.heap.size w _›.trans (hbE.mono ‹Below w.heap.size w _›.size)⟩) | (go_split_ands; with_reducible exact ⟨hold1 hbD ‹_›, hold1 hbD ‹_›, hold1 hbD ‹_›, hold1 hbD ‹_›, hold1 hbD ‹_›, hold1 hbD ‹_›, ‹Below w.heap.size w _›.trans (hbD.mono ‹Below w.heap.size w _›.size)⟩) | (go_split_ands; with_reducible exact ⟨hold1 hbC ‹_›, hold1 hbC ‹_›, hold1 hbC ‹_›, hold1 hbC ‹_›, hold1 hbC ‹_›, hold1 hbC ‹_›, ‹Below w.heap.size w _›.trans (hbC.mono ‹Below w.heap.size w _›.size)⟩) | (go_split_ands; with_reducible exact ⟨hold1 hbB ‹_›, hold1 hbB ‹_›, hold1 hbB ‹_›, hold1 hbB ‹_›, hold1 hbB ‹_›, hold1 hbB ‹_›, ‹Below w.heap.size w _›.trans (hbB.mono ‹Below w.heap.size w _›.size)⟩) | (go_split_ands; with_reducible exact ⟨hold1 hbA ‹_›, hold1 hbA ‹_›, hold1 hbA ‹_›, hold1 hbA ‹_›, hold1 hbA ‹_›, hold1 hbA ‹_›, ‹Below w.heap.size w _›.trans (hbA.mono ‹Below w.heap.size w _›.size)⟩)  | (exact ⟨a0, a1, a2, b0, b1, b2, HB0.drew⟩))
      (first
        | (go_at_call 43; go_split_ands; refine (HA.out _ (by assumption)).mono ?_; rintro e w4 ⟨⟨v1, s1, rfl, hown1, hs1, hm1⟩, hbA⟩; obtain ⟨A1, c1, rfl, hc1, hr1⟩ := hown1.shape; clear hown1)
        | (go_at_call 37; go_split_ands; refine (HB.out _ (by assumption)).mono ?_; rintro e w5 ⟨⟨v2, s2, rfl, hown2, hs2, hm2⟩, hbB⟩; obtain ⟨A2, c2, rfl, hc2, hr2⟩ := hown2.shape; clear hown2)
        | (go_at_call 42; have hss := srt_unique hs1 hs2 (hm1.trans hm2.symm); subst hss; have hsl := hm1.length_eq; rw [Hl.out] at hsl; refine (eqEnt_same _ _ _ _ _ _ _ s1 _ (by first | exact hr1 | exact hr1.below hbB) (by first | exact hr2 | exact hr2.below hbA) rfl (by omega)).mono ?_; rintro e w6 ⟨rfl, hbC⟩; clear hr1 hr2 hsl)
        | (go_at_call 44; refine (HL1.out _).mono ?_; rintro e w7 ⟨rfl, hbD⟩)
        | (go_at_call 45; refine (HL2.out _).mono ?_; rintro e w8 ⟨rfl, hbE⟩)
        | (go_at_call 41; refine (heap_alive _).mono ?_; rintro e w9 ⟨rfl, hbF⟩))
    all_goals
      go_wp2_with fail
      go_ret
      exact ⟨rfl, by go_split_ands; assumption⟩
theorem ent_of {H : Type} {enc : TypeId × Value → H} {w : World} {base : Nat} {spare : Nat → Bool} {held : Bool} (n : Nat) (cs : List Value) (y : DataW H × List MemPlace) (h : DataW.trod enc Try.prog w base spare held n 70 cs = some y) :
    ∃ x : En, cs = ent x ∧ True := by
  obtain ⟨zs, rfl, hlen, hwf⟩ := struct_ints (k := .i64) Try.underlying70 (by kernel_rfl) (by kernel_rfl) (by kernel_rfl) h
  match zs, hlen with
  | [a, b, c], _ => exact ⟨⟨a, b, c⟩, rfl, trivial⟩

set_option maxRecDepth 100000 in
theorem heapSorts_lifted (os : Os) (started : os.Started) (H : Type) (enc : TypeId × Value → H) :
    ReturnsInHanded {} Try.checked os 9 .any (Rows.heapSortsSpec.pre6 enc Try.prog Try.f9 [] false) (Rows.heapSortsSpec.post enc Try.prog Try.f9 false true false false) := by
  refine law_lifted (C := Try.checked) Try.own started (by kernel_rfl) Try.func9
    (ChangeSpec.witness6 (enc := enc) (C := Try.checked) false ⟨#[], #[.slice none 0 0, .agg #[.int .i64 0, .int .i64 0, .int .i64 0], .agg #[.int .i64 0, .int .i64 0, .int .i64 0]], []⟩ 8 (by kernel_rfl) (by kernel_rfl) (by kernel_rfl) (by kernel_rfl))
    Try.laidOut (show ∀ t ∈ [64, 70, 70], Try.prog.readableRec t = true ∧ t < Try.prog.types.size from by
      intro t ht; simp only [List.mem_cons, List.not_mem_nil, or_false] at ht; rcases ht with rfl | rfl | rfl <;> exact ⟨by kernel_rfl, of_decide_eq_true (by kernel_rfl)⟩) (tb := 4) (by kernel_rfl) Try.underlying4 rfl (fun ds hd => ?_) ?_
  · match ds, hd with
    | [_, _, _], _ => rfl
  · intro W base args ds p hval hA
    have hval' : ∀ (j : Nat) t v, Try.f9.params[j]? = some t → args[j]? = some v → Value.okWide Try.prog W .any base t v := hval
    rw [Try.params9] at hA hval'
    obtain ⟨v0, v1, v2, d0, d1, d2, p0, p1, p2, rfl, rfl, rfl, h0, h1, h2⟩ := trodAll_three hA
    obtain ⟨A, n, c, l, rfl, hl, hc, _, _, hr⟩ := arg_list (f := ent) ent_len (by omega) (ok := fun _ => True) Try.underlying64 (by kernel_rfl) ent_of (hval' 0 _ _ rfl rfl) h0
    obtain ⟨zs, rfl, hzl, hzw⟩ := arg_struct_ints (k := .i64) Try.underlying70 (by kernel_rfl) (by kernel_rfl) (by kernel_rfl) (hval' 1 _ _ rfl rfl) h1
    obtain ⟨a, rfl⟩ : ∃ a : En, zs = [a.t, a.k, a.i] := by
      match zs, hzl with
      | [a, b, c], _ => exact ⟨⟨a, b, c⟩, rfl⟩
    obtain ⟨ys, rfl, hyl, hyw⟩ := arg_struct_ints (k := .i64) Try.underlying70 (by kernel_rfl) (by kernel_rfl) (by kernel_rfl) (hval' 2 _ _ rfl rfl) h2
    obtain ⟨b, rfl⟩ : ∃ a : En, ys = [a.t, a.k, a.i] := by
      match ys, hyl with
      | [a, b, c], _ => exact ⟨⟨a, b, c⟩, rfl⟩
    exact heapSorts_walk A n c l a b W hr hl

theorem heapSorts_holds : Rows.HeapSortsSaid :=
  OpenClaim.holds_of_wide 9 Try.f9 rfl rfl rfl rfl rfl rfl rfl ⟨rfl, rfl, rfl, rfl, rfl⟩ rfl rfl rfl rfl rfl (by kernel_rfl) Try.func9 (by kernel_rfl)
    (of_decide_eq_true (by kernel_rfl)) (by unfold Func.isWrapper; first | (rw [if_pos (by decide +kernel)]; kernel_rfl) | (rw [if_neg (by decide +kernel)]; exact ⟨rfl, rfl⟩))
    (fun os started H enc _ => heapSorts_lifted os started H enc)
#print axioms heapSorts_holds
end Go.Proofs.Ytknmpfimnbenjaa
