/-
  The law TapeReads holds: whatever the bytes, the call returns true and turns nothing. No condition.
-/
import Derived.Test.YtknmpfimnbenjaaRows
import Derived.Test.YtknmpfimnbenjaaFrame
import Derived.Test.YtknmpfimnbenjaaTapeRefPut
import Derived.Test.YtknmpfimnbenjaaTapeSame
import Derived.Test.YtknmpfimnbenjaaTapeAlive
namespace Go.Proofs.Ytknmpfimnbenjaa
open Go.ChangeShapes Go.WideShapes Go.ChangeAt Go.RowKit HB PackP TapeP
set_option linter.unusedVariables false
set_option linter.unusedSimpArgs false

theorem pB_lens (x : Lo) : x.ts.length ≤ (pB x).length ∧ x.ls.length ≤ (pB x).length := by
  have h1 := flat_long pT pT_pos x.ts
  have h2 := flat_long pC pC_pos x.ls
  unfold pB
  simp only [List.length_append]
  omega
theorem rows_lens (x : Lo) : ∀ l ∈ x.ls, l.length ≤ (pB x).length := by
  intro l hl
  have h1 := flat_long pL pL_pos l
  have h2 : (pC l).length ≤ (x.ls.flatMap pC).length := by
    obtain ⟨s, t, e⟩ := List.append_of_mem hl
    rw [e]; simp only [List.flatMap_append, List.flatMap_cons, List.length_append]; omega
  unfold pB
  simp only [pC, List.length_append] at h2 ⊢
  omega
set_option maxRecDepth 100000 in
set_option maxHeartbeats 4000000 in
theorem tapeReads_all (A : Option Addr) (n c : Nat) (l : List Int) (W : World) (hr : Rd W W.heap.size 1 A n (l.map (Value.int .u8))) (hl : l.length = n) (hc : n ≤ c) (hb : In l) :
    Calls Try.prog 7 #[.slice A n c] W fun e w' => e = .returned (.bool true) ∧ Below W.heap.size W w' := by
  by_cases hbig : 2000 < n
  · go_enter Try.func7, Try.ntmps7
    go_wp2_with fail
    go_ret
    exact ⟨rfl, Below.refl _ _⟩
  · have HRD := hide (tape_read A n c W.heap.size l W hr (Nat.le_refl _) hl hc (by omega) hb)
    have HR := hide hr
    have Hl := hide hl
    have HIN := hide hb
    clear hr hl hb
    go_enter Try.func7, Try.ntmps7
    go_wp2_with fail
    refine (HRD.out).mono ?_
    rintro e w1 ⟨hb1, h⟩
    have HB1 := hide hb1
    have hz1 := hb1.size
    rcases h with ⟨b', hl', h1, h2, A1, n1, c1, A2, n2, c2, rfl, hT, hLg, hc1, hc2⟩ | ⟨hng, rfl⟩
    · have hin' : In b' := fun y hy => HIN.out y (by rw [hl']; exact List.mem_cons_of_mem _ hy)
      have hlb := log_back hin' h1 h2
      obtain ⟨x, hx⟩ : ∃ x, x = rLog b' := ⟨_, rfl⟩
      rw [← hx] at hT hLg hlb ⊢
      have hfull : 76 :: pB x = l := by rw [hlb.1, hl']
      have hpl : (pB x).length ≤ 2000 := by have h5 := congrArg List.length hfull; rw [Hl.out, List.length_cons] at h5; omega
      have hps := pB_lens x
      have e1' := hT.2
      have e2' := hLg.len
      have HRP := hide (ref_put37 A1 A2 n1 c1 n2 c2 w1.heap.size x (w1.alloc (.cells #[.slice A1 n1 c1, .slice A2 n2 c2, .int .i64 x.u] 57)) (hT.below ((Below.refl _ _).alloc (Nat.le_refl _) _)) (hLg.below ((Below.refl _ _).alloc (Nat.le_refl _) _)) (by simp) hlb.2 (by omega) (by omega) (by omega))
      have HFU := hide hfull
      clear hT hLg hlb hx hfull hl' h1 h2 hin' hb1 HRD
      go_wp2_with (first
        | (go_at_call 35; refine (law_alive37 _).mono ?_; rintro e w4 ⟨rfl, hb4⟩)
        | (go_at_call 13; refine (HEQ.out).mono ?_; rintro e w3 ⟨rfl, m, rfl⟩)
        | (go_at_call 31; refine (HRP.out).mono ?_; rintro e w2 ⟨⟨v2, rfl, ho2⟩, hb2⟩; rw [HFU.out] at ho2; obtain ⟨A3, c3, rfl, -, hr3⟩ := Own.shape ho2; rw [Hl.out] at hr3 ⊢; rw [map_flat] at hr3; have HB2 := hide ((HB1.out.alloc hz1 (.cells #[.slice A1 n1 c1, .slice A2 n2 c2, .int .i64 x.u] 57)).trans (hb2.mono (by simp; omega))); have HEQ := hide (eqB A3 A n n c3 c w2.heap.size W.heap.size l l w2 hr3 (HR.out.below HB2.out) (by omega) (by omega)); clear ho2 hr3 hb2))
      go_ret
      exact ⟨rfl, (below_drewN HB2.out m).trans (hb4.mono (by have := HB2.out.size; simpa using this))⟩
    · have HSM := hide (fun (V : World) => ref_same none none none none 0 0 0 0 0 0 0 Lo.nil V (Trs.nil _ _ _) (Lgs.nil _ _ _) (Trs.nil _ _ _) (Lgs.nil _ _ _) (Nat.zero_le _) (by omega) (by omega) (fun l h => by simp at h))
      clear hng hb1 HRD
      go_wp2_with (first
        | (go_at_call 35; refine (law_alive37 _).mono ?_; rintro e w4 ⟨rfl, hb4⟩)
        | (go_at_call 34; refine (HSM.out _).mono ?_; rintro e w3 ⟨rfl, hb3⟩))
      go_ret
      have h3 := (HB1.out.alloc hz1 (.cells #[.slice none 0 0, .slice none 0 0, .int .i64 0] 57)).trans (hb3.mono (by simp; omega))
      exact ⟨rfl, h3.trans (hb4.mono h3.size)⟩

set_option maxRecDepth 100000 in
theorem tapeReads_lifted (os : Os) (started : os.Started) (H : Type) (enc : TypeId × Value → H) :
    ReturnsInHanded {} Try.checked os 7 .any (Rows.tapeReadsSpec.pre6 enc Try.prog Try.f7 [] false) (Rows.tapeReadsSpec.post enc Try.prog Try.f7 false true false false) := by
  refine law_lifted (C := Try.checked) Try.own started (by kernel_rfl) Try.func7
    (ChangeSpec.witness6 (enc := enc) (C := Try.checked) false ⟨#[], #[.slice none 0 0], []⟩ 8 (by kernel_rfl) (by kernel_rfl) (by kernel_rfl) (by kernel_rfl))
    Try.laidOut (show ∀ t ∈ [22], Try.prog.readableRec t = true ∧ t < Try.prog.types.size from by
      intro t ht; simp only [List.mem_cons, List.not_mem_nil, or_false] at ht; subst ht <;> exact ⟨by kernel_rfl, of_decide_eq_true (by kernel_rfl)⟩) (tb := 4) (by kernel_rfl) Try.underlying4 rfl (fun ds hd => ?_) ?_
  · match ds, hd with
    | [_], _ => rfl
  · intro W base args ds p hval hA
    have hval' : ∀ (j : Nat) t v, Try.f7.params[j]? = some t → args[j]? = some v → Value.okWide Try.prog W .any base t v := hval
    rw [Try.params7] at hA hval'
    obtain ⟨v0, d0, rfl, rfl, h0⟩ := trodAll_one hA
    obtain ⟨A, n, c, l, rfl, hl, hcA, hcB, hw, hr⟩ := arg_ints Try.underlying22 Try.underlying5 (by kernel_rfl) (hval' 0 _ _ rfl rfl) h0
    exact tapeReads_all A n c l W hr hl hcA (fun x hx => by have h := bounds_u8 (hw x hx); omega)

theorem tapeReads_holds : Rows.TapeReadsSaid :=
  OpenClaim.holds_of_wide 7 Try.f7 rfl rfl rfl rfl rfl rfl rfl ⟨rfl, rfl, rfl, rfl, rfl⟩ rfl rfl rfl rfl rfl (by kernel_rfl) Try.func7 (by kernel_rfl)
    (of_decide_eq_true (by kernel_rfl)) (by unfold Func.isWrapper; first | (rw [if_pos (by decide +kernel)]; kernel_rfl) | (rw [if_neg (by decide +kernel)]; exact ⟨rfl, rfl⟩))
    (fun os started H enc _ => tapeReads_lifted os started H enc)
#print axioms tapeReads_holds
end Go.Proofs.Ytknmpfimnbenjaa
