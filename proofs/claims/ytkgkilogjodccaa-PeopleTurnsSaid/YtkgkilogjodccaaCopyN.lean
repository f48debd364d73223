/-
  'copy' between slices whose elements are of several cells, the target a whole row of the call's own; 'make' of such a row.
-/
import Derived.Test.YtkgkilogjodccaaOwn
import Derived.Laws.CopyOwn
import Derived.Laws.MakeOwn
namespace Go.Proofs.Ytkgkilogjodccaa.HB
open Go.RowKit
/-- cells laid over a list, from place o on -/
def lay : List Value → Nat → List Value → List Value
  | xs, _, [] => xs
  | xs, o, v :: r => lay (xs.set o v) (o + 1) r
theorem lay_length : ∀ (vs xs : List Value) (o : Nat), (lay xs o vs).length = xs.length
  | [], xs, o => rfl
  | v :: r, xs, o => by rw [lay, lay_length r]; simp
theorem lay_get : ∀ (vs xs : List Value) (o i : Nat), o + vs.length ≤ xs.length → (lay xs o vs)[i]? = if i < o then xs[i]? else if i < o + vs.length then vs[i - o]? else xs[i]?
  | [], xs, o, i, _ => by
    simp only [lay, List.length_nil, Nat.add_zero]
    split
    · rfl
    · rfl
  | v :: r, xs, o, i, h => by
    simp only [List.length_cons] at h
    rw [lay, lay_get r (xs.set o v) (o + 1) i (by simp; omega), List.getElem?_set, List.length_cons]
    rcases Nat.lt_trichotomy i o with h1 | h1 | h1
    · have a1 : i < o + 1 := by omega
      have a2 : ¬ o = i := by omega
      simp only [a1, a2, h1, if_true, if_false]
    · subst h1
      have a1 : i < i + 1 := by omega
      have a2 : i < xs.length := by omega
      have a3 : i < i + (r.length + 1) := by omega
      simp only [a1, a2, a3, if_true, Nat.lt_irrefl, if_false, Nat.sub_self, List.getElem?_cons_zero]
    · have a1 : ¬ i < o + 1 := by omega
      have a2 : ¬ o = i := by omega
      have a4 : ¬ i < o := by omega
      by_cases h2 : i < o + 1 + r.length
      · have a5 : i < o + (r.length + 1) := by omega
        simp only [a1, a2, a4, h2, a5, if_true, if_false]
        rw [show i - o = (i - (o + 1)) + 1 by omega, List.getElem?_cons_succ]
      · have a5 : ¬ i < o + (r.length + 1) := by omega
        simp only [a1, a2, a4, h2, a5, if_false]
theorem lay_all (vs xs : List Value) (h : vs.length = xs.length) : lay xs 0 vs = vs := by
  apply List.ext_getElem?
  intro i
  rw [lay_get vs xs 0 i (by omega), if_neg (by omega)]
  split
  · simp
  · rw [List.getElem?_eq_none (by omega), List.getElem?_eq_none (by omega)]
theorem own_setCells {base sz g n c : Nat} {e : TypeId} : ∀ (vs xs : List Value) (o : Nat) (w : World), w.ownsRow base e sz (.slice (some ⟨g, 0, none⟩) n c) n xs →
    (w.setCells g o vs).ownsRow base e sz (.slice (some ⟨g, 0, none⟩) n c) n (lay xs o vs) ∧ Below base w (w.setCells g o vs)
  | [], xs, o, w, h => ⟨h, Below.refl _ _⟩
  | v :: r, xs, o, w, h => by
    have h1 := (World.ownsRow.stored h o v).1
    have h2 := own_setCells r (xs.set o v) (o + 1) _ h1
    exact ⟨h2.1, ((Below.refl base w).setCell (h.lt g rfl).1 _).trans h2.2⟩
section
variable {P : Program}
theorem run_copy_sz (w : World) (dT sT ty elem : TypeId) (b o dLen dCap : Nat) (a : Addr) (sLen sCap sz m : Nat) (cs : List Value)
    (hu : P.underlying dT = some (.slice elem)) (hs : (P.info? elem).map (·.size) = some sz) (hm : m = Nat.min sLen dLen) (hn : cs.length = m * sz)
    (hsrc : ∀ j v, cs[j]? = some v → w.cell? (a.add j) = some v) (hc : ∀ j, j < cs.length → (w.cell? ⟨b, o + j, none⟩).isSome = true) (hf : ∀ j, j < cs.length → w.frozen? ⟨b, o + j, none⟩ = false) (h1 : ∀ v ∈ cs, v.oneCell' = true) :
    (Builtin.copy_ #[dT, sT] ty #[.slice (some ⟨b, o, none⟩) dLen dCap, .slice (some a) sLen sCap]).run P w = .ok (goInt m) (w.setCells b o cs) := by
  have hl := run_loadCells_list (P := P) w a cs hsrc
  have hst := run_storeCells_cells (P := P) b o cs 0 w (by simpa using hc) (by simpa using hf) h1
  cases hq : P.info? elem with
  | none => simp [hq] at hs
  | some i =>
    have hi : i.size = sz := by simpa [hq] using hs
    rw [hn] at hl
    simp [Builtin.copy_, run_underlying hu, Builtin.lenOf, Builtin.firstCells, sizeOf, typeInfo, hq, hi, ← hm, hl, hst]
theorem run_copy_no (w : World) (dT sT ty elem : TypeId) (d a : Option Addr) (dLen dCap sLen sCap sz : Nat) (hu : P.underlying dT = some (.slice elem)) (hs : (P.info? elem).map (·.size) = some sz) (hn : Nat.min sLen dLen = 0) :
    (Builtin.copy_ #[dT, sT] ty #[.slice d dLen dCap, .slice a sLen sCap]).run P w = .ok (goInt 0) w := by
  cases hq : P.info? elem with
  | none => simp [hq] at hs
  | some i =>
    have hl : ∀ (x : Addr), (loadCells x 0).run P w = .ok #[] w := fun x => by simpa using run_loadCells_list (P := P) w x [] (by simp)
    cases d <;> cases a <;> simp [Builtin.copy_, run_underlying hu, Builtin.lenOf, Builtin.firstCells, sizeOf, typeInfo, hq, hn, storeCells, hl]
/-- 'copy(out, xs)' where out is a whole row of the call's own, as long as xs -/
theorem copyAll {α : Type} {f : α → List Value} {base sz : Nat} {e : TypeId} {w : World} {ops : Array Oper} {rest : List Oper} {o : Oper} {a : Act} {Q : Exit → Act → World → Prop} (hgd : o.guard = none) (d s : Operand) (dT sT : TypeId)
    (ho : o.op = .call { callee := .builtin .copy, args := #[d, s], argTypes := #[dT, sT] }) (hu : P.underlying dT = some (.slice e)) (hs : (P.info? e).map (·.size) = some sz)
    (g n c c' B : Nat) (A : Option Addr) (L L' : List α) (hd : a.eval d = .slice (some ⟨g, 0, none⟩) n c) (hx : a.eval s = .slice A n c')
    (hown : Own w base e sz f (.slice (some ⟨g, 0, none⟩) n c) L) (hL : L.length = n) (hL' : L'.length = n) (hf : ∀ x, (f x).length = sz) (hr : Rd w B sz A n (L'.flatMap f)) (h1 : ∀ v ∈ L'.flatMap f, v.oneCell' = true)
    (h : ∀ w', Own w' base e sz f (.slice (some ⟨g, 0, none⟩) n c) L' → Below base w w' → wpList P ops Q rest (a.put o.dst (goInt n)) w') : wpList P ops Q (o :: rest) a w := by
  refine wpList_plain hgd fun K hK => ?_
  rcases Nat.eq_zero_or_pos n with h0 | h0
  · subst h0
    have e1 : L = [] := List.eq_nil_of_length_eq_zero hL
    have e2 : L' = [] := List.eq_nil_of_length_eq_zero hL'
    subst e1
    subst e2
    have hrun := run_copy_no (P := P) w dT sT o.type e (some ⟨g, 0, none⟩) A 0 c 0 c' sz hu hs rfl
    unfold Oper.wp
    simp [execOp, ho, resolve, invoke, builtin, hd, hx, hrun, Result.andThen]
    exact hK _ _ (h w hown (Below.refl _ _))
  · obtain ⟨b, off, rfl, hb, hcell⟩ := hr.at_ h0
    have hlen : (L'.flatMap f).length = n * sz := by rw [flat_length hf, hL']
    have hlen2 : (L.flatMap f).length = n * sz := by rw [flat_length hf, hL]
    have hrow := hown.row
    rw [hL] at hrow
    have hrun := run_copy_sz (P := P) w dT sT o.type e g 0 n c ⟨b, off, none⟩ n c' sz n (L'.flatMap f) hu hs (by simp) hlen
      (fun j v hv => by
        have := hcell j v hv
        unfold Addr.add
        split
        · rename_i hj; subst hj; exact this
        · exact this)
      (fun j hj => by
        rw [Nat.zero_add, World.ownsRow.cellAt hrow j (by omega), List.getElem?_eq_getElem (by omega)]; rfl)
      (fun j hj => by rw [Nat.zero_add]; exact World.ownsRow.frozenAt hrow j) h1
    have hfin := own_setCells (L'.flatMap f) _ 0 w hrow
    rw [lay_all _ _ (by rw [hlen, hlen2])] at hfin
    unfold Oper.wp
    simp [execOp, ho, resolve, invoke, builtin, hd, hx, hrun, Result.andThen]
    refine hK _ _ (h _ ?_ hfin.2)
    show World.ownsRow _ base e sz _ L'.length (L'.flatMap f)
    rw [hL']; exact hfin.1
end
end Go.Proofs.Ytkgkilogjodccaa.HB
