/-
  The law WordsDraw holds: whatever the stream and the number, the call returns true and turns nothing. No condition.
-/
import Derived.Test.YtikdkljknbgphaaRows
import Derived.Test.YtikdkljknbgphaaFrame
import Derived.Test.YtikdkljknbgphaaWordsDrawP
namespace Go.Proofs.Ytikdkljknbgphaa
open Go.ChangeShapes Go.WideShapes Go.ChangeAt Go.RowKit HB PickP
set_option linter.unusedVariables false
set_option linter.unusedSimpArgs false

set_option maxRecDepth 100000 in
theorem wordsDraw_walk (A : Option Addr) (n c : Nat) (ws : List Int) (at_ m : Int) (w : World) (hr : Rd w w.heap.size 1 A n (ws.map (Value.int .u32))) (hl : ws.length = n) (hc : n ≤ c) :
    Calls Try.prog 14 #[Words.st A n c at_, .int .i64 m] w fun e w' => e = .returned (.bool true) ∧ Below w.heap.size w w' := by
  by_cases hbig : 1000 < n
  · have dn : decide (1000 < n) = true := by simpa using hbig
    clear hr hl
    go_enter Try.func14, Try.ntmps14
    go_wp2_with fail
    go_ret
    exact ⟨rfl, by go_grown⟩
  · by_cases hd : at_ < 0 ∨ (n : Int) ≤ at_
    · rcases (show m < 0 ∨ m = 0 ∨ 0 < m by omega) with h | h | h
      · exact wd_dry_neg A n c ws at_ m w hr (by omega) hd h
      · subst h; exact wd_dry_zero A n c ws at_ w hr (by omega) hd
      · exact wd_dry_over A n c ws at_ m w hr (by omega) hd (by omega) h
    · obtain ⟨k, rfl⟩ := Int.eq_ofNat_of_zero_le (show 0 ≤ at_ by omega)
      obtain ⟨b, off, x, rfl, hb, hg, c0⟩ := hr.int_at hl (show k < n by omega)
      rcases (show m < 0 ∨ m = 0 ∨ (0 < m ∧ (n : Int) - k < m) ∨ (0 < m ∧ m ≤ (n : Int) - k) by omega) with h | h | ⟨h, h'⟩ | ⟨h, h'⟩
      · exact wd_yes_neg b off n c k ws x m w hr hl (by omega) hc (by omega) hb c0 h
      · subst h; exact wd_yes_zero b off n c k ws x w hr hl (by omega) hc (by omega) hb c0
      · exact wd_yes_over b off n c k ws x m w hr hl (by omega) hc (by omega) hb c0 (by omega) h'
      · obtain ⟨M, rfl⟩ := Int.eq_ofNat_of_zero_le (show 0 ≤ m by omega)
        exact wd_yes_some b off n c k ws x M w hr hl (by omega) hc (by omega) hb c0 (by omega) (by omega)

set_option maxRecDepth 100000 in
theorem wordsDraw_lifted (os : Os) (started : os.Started) (H : Type) (enc : TypeId × Value → H) :
    ReturnsInHanded {} Try.checked os 14 .any (Rows.wordsDrawSpec.pre6 enc Try.prog Try.f14 [] false) (Rows.wordsDrawSpec.post enc Try.prog Try.f14 false true false false) := by
  refine law_lifted (C := Try.checked) Try.own started (by kernel_rfl) Try.func14
    (ChangeSpec.witness6 (enc := enc) (C := Try.checked) false ⟨#[], #[.agg #[.slice none 0 0, .int .i64 0], .int .i64 0], []⟩ 8 (by kernel_rfl) (by kernel_rfl) (by kernel_rfl) (by kernel_rfl))
    Try.laidOut (show ∀ t ∈ [55, 3], Try.prog.readableRec t = true ∧ t < Try.prog.types.size from by
      intro t ht; simp only [List.mem_cons, List.not_mem_nil, or_false] at ht; rcases ht with rfl | rfl <;> exact ⟨by kernel_rfl, of_decide_eq_true (by kernel_rfl)⟩) (tb := 4) (by kernel_rfl) Try.underlying4 rfl (fun ds hd => ?_) ?_
  · match ds, hd with
    | [_, _], _ => rfl
  · intro W base args ds p hval hA
    have hval' : ∀ (j : Nat) t v, Try.f14.params[j]? = some t → args[j]? = some v → Value.okWide Try.prog W .any base t v := hval
    rw [Try.params14] at hA hval'
    obtain ⟨v0, v1, d0, d1, p0, p1, rfl, rfl, rfl, h0, h1⟩ := trodAll_two hA
    obtain ⟨us, m, rfl, hul, huf⟩ := arg_struct Try.underlying55 (by kernel_rfl) (by kernel_rfl) (hval' 0 _ _ rfl rfl) h0
    obtain ⟨A, n, c, ws, a1, rfl, hl, hc, hw, hr⟩ : ∃ (A : Option Addr) (n c : Nat) (ws : List Int) (a1 : Int), us = [.slice A n c, .int .i64 a1] ∧ ws.length = n ∧ n ≤ c ∧ (∀ x ∈ ws, (Lit.int .u32 x).wf = true) ∧ Rd W W.heap.size 1 A n (ws.map (Value.int .u32)) := by
      match us, hul with
      | [u0, u1], _ =>
        obtain ⟨y0, t0⟩ := huf 0 _ u0 rfl rfl
        obtain ⟨y1, t1⟩ := huf 1 _ u1 rfl rfl
        obtain ⟨A, n, c, l, e0, hl, hc, _, hw, hr⟩ := open_list (f := fun z => [Value.int .u32 z]) (m := 1) (fun _ => rfl) (by omega) (ok := fun z => (Lit.int .u32 z).wf = true) Try.underlying32 (by kernel_rfl)
          (fun n cs' y hy => by obtain ⟨z, h1, _, h2⟩ := DataW.trod_int Try.underlying33 hy; exact ⟨z, h1, h2⟩) t0
        obtain ⟨z, e1, _, _⟩ := DataW.trod_int Try.underlying3 t1
        simp only [List.cons.injEq, and_true] at e0 e1
        subst e0; subst e1
        rw [map_flat] at hr
        exact ⟨A, n, c, l, z, rfl, hl, hc, hw, hr⟩
    obtain ⟨a2, rfl, w2⟩ := arg_int Try.underlying3 (hval' 1 _ _ rfl rfl) h1
    exact wordsDraw_walk A n c ws a1 a2 W hr hl hc

theorem wordsDraw_holds : Rows.WordsDrawSaid :=
  OpenClaim.holds_of_wide 14 Try.f14 rfl rfl rfl rfl rfl rfl rfl ⟨rfl, rfl, rfl, rfl, rfl⟩ rfl rfl rfl rfl rfl (by kernel_rfl) Try.func14 (by kernel_rfl)
    (of_decide_eq_true (by kernel_rfl)) (by unfold Func.isWrapper; first | (rw [if_pos (by decide +kernel)]; kernel_rfl) | (rw [if_neg (by decide +kernel)]; exact ⟨rfl, rfl⟩))
    (fun os started H enc _ => wordsDraw_lifted os started H enc)
#print axioms wordsDraw_holds
end Go.Proofs.Ytikdkljknbgphaa
