/-
  The calendar's keys.
-/
import Derived.Test.YtknmpfimnbenjaaProg
import Derived.Test.YtknmpfimnbenjaaFrame
import Derived.Test.YtknmpfimnbenjaaBase
import Derived.Maps.Own
import Derived.Maps.OwnSet
import Derived.Maps.OwnOps
import Derived.DeepKeys4
namespace Go.Proofs.Ytknmpfimnbenjaa
open Go.RowKit HB Go.Maps
set_option linter.unusedVariables false
set_option linter.unusedSimpArgs false
theorem cellLaw : Keyed Try.prog 119 := Keyed.of_law (deep_law_laid Try.laidOut (m := 2) (by omega) (of_decide_eq_true (by kernel_rfl)) (by kernel_rfl) (by kernel_rfl))
theorem cell_lits {a b : Int} (ha : (Lit.int .i64 a).wf = true) (hb : (Lit.int .i64 b).wf = true) (d : Nat) : Try.prog.keyLits (d + 2) 119 [.int .i64 a, .int .i64 b] = some [.int .i64 a, .int .i64 b] := by
  have c1 : Try.prog.cellsOf 119 = 2 := by kernel_rfl
  have c2 : Try.prog.cellsOf 3 = 1 := by kernel_rfl
  simp [Program.keyLits, Try.underlying119, Try.underlying3, c1, c2, ha, hb]
/-- what the key of a kind and a number reads as -/
noncomputable def kl (a b : Int) : Lit := .string (keyBytes [.int .i64 a, .int .i64 b])
theorem cell_key {a b : Int} (ha : (Lit.int .i64 a).wf = true) (hb : (Lit.int .i64 b).wf = true) : keyOf Try.prog 119 (.agg #[.int .i64 a, .int .i64 b]) = some (kl a b) := by
  have h1 : Try.prog.keyType 119 = true := by kernel_rfl
  have c1 : Try.prog.cellsOf 119 = 2 := by kernel_rfl
  have h2 : (Value.agg #[.int .i64 a, .int .i64 b]).formed Try.prog 119 = true := by
    simp [Value.formed, Try.underlying119, c1]
  have h3 : Try.prog.types.size + 1 = (Try.prog.types.size - 1) + 2 := by kernel_rfl
  unfold keyOf
  rw [Try.underlying119]
  simp only [h1, h2, Bool.and_self, if_true]
  rw [h3]
  show Option.map _ (Try.prog.keyLits _ _ [.int .i64 a, .int .i64 b]) = _
  rw [cell_lits ha hb]
  rfl
def inI (a : Int) : Prop := (Lit.int .i64 a).wf = true
theorem kl_key {a b : Int} (ha : inI a) (hb : inI b) : keyOf Try.prog 119 (.agg #[.int .i64 a, .int .i64 b]) = some (kl a b) := cell_key ha hb
theorem kl_inj {a b c d : Int} (ha : inI a) (hb : inI b) (hc : inI c) (hd : inI d) (h : kl a b = kl c d) : a = c ∧ b = d := by
  have h1 := kl_key ha hb
  have h2 := kl_key hc hd
  rw [← h] at h2
  have := cellLaw.inj h1 h2
  simpa using this
theorem kl_isKey {a b : Int} (ha : inI a) (hb : inI b) : WideAt.IsKeyLit (kl a b) := cellLaw.key (kl_key ha hb)
end Go.Proofs.Ytknmpfimnbenjaa
