/-
  The calendar's map in the world, nil or not, over the row of what is to happen.
-/
import Derived.Test.YtknmpfimnbenjaaCalPlain
namespace Go.Proofs.Ytknmpfimnbenjaa
open Go.RowKit HB HeapP Go.Maps CalP
set_option linter.unusedVariables false
set_option linter.unusedSimpArgs false
namespace CalP
abbrev MT : TypeId := 86
theorem zeroI (w : World) : (zeroValue 3).run Try.prog w = .ok (.int .i64 0) w := by kernel_rfl
theorem elI {a : Int} (h : inI a) : plainElem (H := Unit) Try.prog 3 (.int .i64 a) = some (.lit (.int .i64 a), []) := plainElem_int Try.underlying3 h
theorem zI : inI 0 := by unfold inI; decide
/-- the map m (nil: none), of at most n entries, says what the row says -/
def Mp (w : World) (m : Option Nat) (n : Nat) (l : List En) : Prop :=
  (m = none ∧ l = []) ∨ ∃ b D, m = some b ∧ w.ownsMap Try.prog 119 (plainElem Try.prog 3) b n D ∧ Cd D l
section
variable {w w' : World} {m : Option Nat} {n : Nat} {l : List En}
theorem Mp.kept (h : Mp w m n l) {row : Option Nat} (hg : w.grownBy w' row) (hne : ∀ b, m = some b → some b ≠ row) : Mp w' m n l := by
  rcases h with h | ⟨b, D, h1, h2, h3⟩
  · exact .inl h
  · exact .inr ⟨b, D, h1, h2.kept hg (hne b h1), h3⟩
theorem Mp.below (h : Mp w m n l) (hb : Below w.heap.size w w') : Mp w' m n l :=
  h.kept (row := none) ⟨hb.os, hb.tape, hb.output, hb.size, fun k hk _ => hb.block k hk⟩ (fun b _ => by simp)
theorem Mp.perm (h : Mp w m n l) {l' : List En} (hp : l.Perm l') : Mp w m n l' := by
  rcases h with ⟨h1, h2⟩ | ⟨b, D, h1, h2, h3⟩
  · subst h2; exact .inl ⟨h1, (List.Perm.nil_eq hp).symm⟩
  · exact .inr ⟨b, D, h1, h2, h3.perm hp⟩
theorem Mp.mono (h : Mp w m n l) {n' : Nat} (hn : n ≤ n') : Mp w m n' l := by
  rcases h with h | ⟨b, D, h1, h2, h3⟩
  · exact .inl h
  · exact .inr ⟨b, D, h1, h2.mono hn, h3⟩
theorem Mp.lt (h : Mp w m n l) {b : Nat} (hm : m = some b) : b < w.heap.size := by
  rcases h with ⟨h1, _⟩ | ⟨b', D, h1, h2, h3⟩
  · rw [h1] at hm; cases hm
  · rw [h1] at hm; injection hm with hm; subst hm; exact h2.lt
theorem Mp.only {p g : Nat} (h : Mp w m n l) (ho : Only p g w w') (hp : ∀ b, m = some b → b ≠ p ∧ b ≠ g) : Mp w' m n l := by
  rcases h with h | ⟨b, D, h1, ⟨es, clock, k1, k2, k3, k4⟩, h3⟩
  · exact .inl h
  · have hl : b < w.heap.size := (Array.getElem?_eq_some_iff.1 k1).1
    exact .inr ⟨b, D, h1, ⟨es, clock, (ho.block b hl (hp b h1).1 (hp b h1).2).trans k1, k2, k3, k4⟩, h3⟩
set_option maxRecDepth 100000 in
/-- 't, is := c.at[key(k, i)]' -/
theorem Mp.look (h : Mp w m n l) (hu : Uq l) {k i : Int} (hk : inI k) (hi : inI i) :
    ∃ c ok, (Instr.lookup MT (.map m) (.agg #[.int .i64 k, .int .i64 i]) true).run Try.prog w = .ok (.tuple #[.int .i64 c, .bool ok]) w ∧
      ((ok = true ∧ ∃ e ∈ l, e.k = k ∧ e.i = i ∧ e.t = c) ∨ (ok = false ∧ c = 0 ∧ ∀ e ∈ l, ¬ (e.k = k ∧ e.i = i))) := by
  rcases h with ⟨rfl, rfl⟩ | ⟨b, D, rfl, h2, h3⟩
  · exact ⟨0, false, Maps.look_nil true cellLaw Try.underlying86 (zeroI w) (kl_key hk hi), .inr ⟨rfl, rfl, by simp⟩⟩
  · obtain ⟨v, ps, hrun, hv⟩ := h2.look_ok cellLaw Try.underlying86 (zeroI w) (elI zI) (kl_key hk hi)
    obtain ⟨c, rfl, hc, _⟩ := plainElem_int_inv Try.underlying3 hv
    have hc' : D.atKey (kl k i) (.lit (.int .i64 0)) = .lit (.int .i64 c) := congrArg Prod.fst hc
    refine ⟨c, Maps.has D (kl k i), hrun, ?_⟩
    cases hh : Maps.has D (kl k i) with
    | true =>
      obtain ⟨e, he, rfl, rfl⟩ := (h3.has_ k i hk hi).1 hh
      refine .inl ⟨rfl, e, he, rfl, rfl, ?_⟩
      rw [h3.at_ e he] at hc'
      injection hc' with hc'
      injection hc' with _ hc'
    | false =>
      refine .inr ⟨rfl, ?_, fun e he hh' => ?_⟩
      · rw [Maps.atKey_of_not_has hh] at hc'
        injection hc' with hc'
        injection hc' with _ hc'
        exact hc'.symm
      · rw [(h3.has_ k i hk hi).2 ⟨e, he, hh'⟩] at hh; cases hh
/-- 'delete(c.at, key(k, i))' -/
theorem Mp.drop (h : Mp w m n l) (hu : Uq l) (hw : ∀ e ∈ l, wfE e) {k i : Int} (hk : inI k) (hi : inI i) (ty : TypeId) :
    ∃ w', (Builtin.delete_ #[MT, 119] ty #[.map m, .agg #[.int .i64 k, .int .i64 i]]).run Try.prog w = .ok (.tuple #[]) w' ∧ Mp w' m n (wo l k i) ∧ w.grownBy w' m := by
  rcases h with ⟨rfl, rfl⟩ | ⟨b, D, rfl, h2, h3⟩
  · exact ⟨w, Maps.drop_nil cellLaw Try.underlying86 (kl_key hk hi) ty, .inl ⟨rfl, rfl⟩, ⟨rfl, rfl, rfl, Nat.le_refl _, fun _ _ _ => rfl⟩⟩
  · obtain ⟨w', hrun, r1, r2⟩ := h2.drop cellLaw Try.underlying86 (kl_key hk hi) ty
    exact ⟨w', hrun, .inr ⟨b, _, rfl, r1, h3.del (h2.tidy cellLaw) hu hw hk hi⟩, r2.grown⟩
/-- 'c.at[key(k, i)] = t' -/
theorem Mp.store {b : Nat} (h : Mp w (some b) n l) (hu : Uq l) (hw : ∀ e ∈ l, wfE e) (hn : n < maxLen) {e : En} (he : wfE e) :
    ∃ w', (Instr.mapUpdate MT (.map (some b)) (.agg #[.int .i64 e.k, .int .i64 e.i]) (.int .i64 e.t)).run Try.prog w = .ok () w' ∧ Mp w' (some b) (n + 1) (e :: wo l e.k e.i) ∧ w.grownBy w' (some b) := by
  rcases h with ⟨h1, _⟩ | ⟨b', D, h1, h2, h3⟩
  · cases h1
  · injection h1 with h1
    subst h1
    obtain ⟨w', hrun, r1, r2⟩ := h2.store cellLaw Try.underlying86 hn (kl_key he.2.1 he.2.2) (elI he.1)
    exact ⟨w', hrun, .inr ⟨_, _, rfl, r1, h3.put (h2.tidy cellLaw) hu hw he⟩, r2.grown⟩
/-- 'len(c.at)' -/
theorem Mp.len (h : Mp w m n l) (ty : TypeId) : (Builtin.len_ #[MT] ty #[.map m]).run Try.prog w = .ok (.int .i64 l.length) w := by
  rcases h with ⟨rfl, rfl⟩ | ⟨b, D, rfl, h2, h3⟩
  · exact Maps.len_nil Try.underlying86 ty
  · rw [← h3.size]; exact h2.len Try.underlying86 ty
/-- 'clear(c.at)' -/
theorem Mp.clear (h : Mp w m n l) (ty : TypeId) : ∃ w', (Builtin.clear_ #[MT] ty #[.map m]).run Try.prog w = .ok (.tuple #[]) w' ∧ Mp w' m n [] ∧ w.grownBy w' m := by
  rcases h with ⟨rfl, rfl⟩ | ⟨b, D, rfl, ⟨es, clock, k1, k2, k3, k4⟩, h3⟩
  · refine ⟨w, ?_, .inl ⟨rfl, rfl⟩, ⟨rfl, rfl, rfl, Nat.le_refl _, fun _ _ _ => rfl⟩⟩
    simp [Builtin.clear_, run_underlying Try.underlying86, Result.andThen]
  · refine ⟨ChangeMaps.setBlock w b (.map #[] clock), ?_, .inr ⟨b, .map [], rfl, ⟨#[], clock, ChangeMaps.heap_setBlock_same k1 _, ⟨by simp, MapKept.stamped_empty clock, by simp⟩, Nat.zero_le _, rfl⟩, Cd.empty⟩, ?_⟩
    · simp [Builtin.clear_, run_underlying Try.underlying86, MapKept.run_getObj_map k1, MapKept.run_setObj_map _ k1, Result.andThen, ChangeMaps.setBlock]
    · exact World.mapTurned.grown ⟨es, clock, #[], clock, k1, rfl⟩
end
/-- a map that is made -/
theorem Mp.made (w : World) : Mp (w.alloc (.map #[] 0)) (some w.heap.size) 0 [] :=
  .inr ⟨_, .map [], rfl, World.ownsMap_made _ _ _ _, Cd.empty⟩
end CalP
end Go.Proofs.Ytknmpfimnbenjaa
