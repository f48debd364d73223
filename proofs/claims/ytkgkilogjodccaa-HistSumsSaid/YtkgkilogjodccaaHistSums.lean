/-
  The law HistSums holds: whatever the rows and the width, the call returns true and turns nothing. No condition.
-/
import Derived.Test.YtkgkilogjodccaaRows
import Derived.Test.YtkgkilogjodccaaFrame
import Derived.Test.YtkgkilogjodccaaHistSums1
import Derived.Test.YtkgkilogjodccaaHistSums2
namespace Go.Proofs.Ytkgkilogjodccaa
open Go.ChangeShapes Go.WideShapes Go.ChangeAt Go.RowKit HB SumH HistP
set_option linter.unusedVariables false
set_option linter.unusedSimpArgs false

set_option maxRecDepth 100000 in
theorem histSums_walk (A A' : Option Addr) (n c n' c' : Nat) (a b : List Int) (k : Int) (w : World) (ha : Rd w w.heap.size 1 A n (a.map (Value.int .i64))) (hla : a.length = n) (hb : Rd w w.heap.size 1 A' n' (b.map (Value.int .i64))) (hlb : b.length = n') (hwa : ∀ x ∈ a, (Lit.int .i64 x).wf = true) (hwb : ∀ x ∈ b, (Lit.int .i64 x).wf = true) (hkm : k ≤ 9223372036854775807) :
    Calls Try.prog 8 #[.slice A n c, .slice A' n' c', .int .i64 k] w fun e w' => e = .returned (.bool true) ∧ Below w.heap.size w w' := by
  by_cases hbig : 100 < n ∨ 100 < n'
  · have hor : 100 < n ∨ (n ≤ 100 ∧ 100 < n') := by omega
    clear hbig hla hlb hwa hwb hkm
    go_enter Try.func8, Try.ntmps8
    rcases hor with h | ⟨h, h'⟩
    all_goals
      go_wp2_with fail
      go_ret
      exact ⟨rfl, Below.refl _ _⟩
  · by_cases hk : k < 1
    · exact histSums_less A A' n c n' c' a b k w ha hla hb hlb hwa hwb (by omega) (by omega) hk
    · exact histSums_more A A' n c n' c' a b k w ha hla hb hlb hwa hwb (by omega) (by omega) (by omega) hkm

set_option maxRecDepth 100000 in
theorem histSums_lifted (os : Os) (started : os.Started) (H : Type) (enc : TypeId × Value → H) :
    ReturnsInHanded {} Try.checked os 8 .any (Rows.histSumsSpec.pre6 enc Try.prog Try.f8 [] false) (Rows.histSumsSpec.post enc Try.prog Try.f8 false true false false) := by
  refine law_lifted (C := Try.checked) Try.own started (by kernel_rfl) Try.func8
    (ChangeSpec.witness6 (enc := enc) (C := Try.checked) false ⟨#[], #[.slice none 0 0, .slice none 0 0, .int .i64 0], []⟩ 8 (by kernel_rfl) (by kernel_rfl) (by kernel_rfl) (by kernel_rfl))
    Try.laidOut (show ∀ t ∈ [35, 35, 3], Try.prog.readableRec t = true ∧ t < Try.prog.types.size from by
      intro t ht; simp only [List.mem_cons, List.not_mem_nil, or_false] at ht; rcases ht with rfl | rfl | rfl <;> exact ⟨by kernel_rfl, of_decide_eq_true (by kernel_rfl)⟩) (tb := 4) (by kernel_rfl) Try.underlying4 rfl (fun ds hd => ?_) ?_
  · match ds, hd with
    | [_, _, _], _ => rfl
  · intro W base args ds p hval hA
    have hval' : ∀ (j : Nat) t v, Try.f8.params[j]? = some t → args[j]? = some v → Value.okWide Try.prog W .any base t v := hval
    rw [Try.params8] at hA hval'
    obtain ⟨v0, v1, v2, d0, d1, d2, p0, p1, p2, rfl, rfl, rfl, h0, h1, h2⟩ := trodAll_three hA
    obtain ⟨A, n, c, a, rfl, hla, _, _, hwa, ha⟩ := arg_ints Try.underlying35 Try.underlying3 (by kernel_rfl) (hval' 0 _ _ rfl rfl) h0
    obtain ⟨A', n', c', b, rfl, hlb, _, _, hwb, hb⟩ := arg_ints Try.underlying35 Try.underlying3 (by kernel_rfl) (hval' 1 _ _ rfl rfl) h1
    obtain ⟨k, rfl, w2⟩ := arg_int Try.underlying3 (hval' 2 _ _ rfl rfl) h2
    exact histSums_walk A A' n c n' c' a b k W ha hla hb hlb hwa hwb (bounds_i64 w2).2

theorem histSums_holds : Rows.HistSumsSaid :=
  OpenClaim.holds_of_wide 8 Try.f8 rfl rfl rfl rfl rfl rfl rfl ⟨rfl, rfl, rfl, rfl, rfl⟩ rfl rfl rfl rfl rfl (by kernel_rfl) Try.func8 (by kernel_rfl)
    (of_decide_eq_true (by kernel_rfl)) (by unfold Func.isWrapper; first | (rw [if_pos (by decide +kernel)]; kernel_rfl) | (rw [if_neg (by decide +kernel)]; exact ⟨rfl, rfl⟩))
    (fun os started H enc _ => histSums_lifted os started H enc)
#print axioms histSums_holds
end Go.Proofs.Ytkgkilogjodccaa
