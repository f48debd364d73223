/-
  Some numbers drawn by words, plainly: a map says what stands at the places from one on.
-/
import Derived.Test.YtalecppofemcnaaShufRef2
import Derived.Maps.Own
import Derived.Maps.OwnSet
import Derived.Maps.OwnOps
import Derived.WalkArith
namespace Go.Proofs.Ytalecppofemcnaa
open Go.RowKit HB PickP ShufP Go.Maps
set_option linter.unusedVariables false
set_option linter.unusedSimpArgs false
namespace ShufP
/-- the row behind j rounds, from the word at p on -/
def sme (ws : List Int) (p n : Nat) : Nat → List Int
  | 0 => row n
  | j + 1 => sw (sme ws p n j) j (j + pl ws (p + j) (n - j))
theorem sme_length (ws : List Int) (p n : Nat) : ∀ j, (sme ws p n j).length = n
  | 0 => row_length n
  | j + 1 => by simp [sme, sw_length, sme_length ws p n j]
theorem sme_drop (ws : List Int) (p n : Nat) : ∀ j, sme (ws.drop p) 0 n j = sme ws p n j
  | 0 => rfl
  | j + 1 => by
    simp only [sme, sme_drop ws p n j, pl, Nat.zero_add]
    rw [List.getD_eq_getElem?_getD, List.getD_eq_getElem?_getD, List.getElem?_drop]
theorem sw_at {l : List Int} {i k : Nat} {x y : Int} (hx : l[i]? = some x) (hy : l[k]? = some y) (a : Nat) : (sw l i k)[a]? = if a = k then some x else if a = i then some y else l[a]? := by
  obtain ⟨hi, _⟩ := List.getElem?_eq_some_iff.1 hx
  obtain ⟨hk, _⟩ := List.getElem?_eq_some_iff.1 hy
  rw [← sw_get hx hy, List.getElem?_set, List.length_set, List.getElem?_set]
  by_cases h1 : a = k
  · subst h1; simp [hk]
  · have h1' : ¬ k = a := fun h => h1 h.symm
    rw [if_neg h1', if_neg h1]
    by_cases h2 : a = i
    · subst h2; simp [hi]
    · have h2' : ¬ i = a := fun h => h2 h.symm
      rw [if_neg h2', if_neg h2]
/-- no number twice -/
def Inj (l : List Int) : Prop := ∀ (a b : Nat) (x : Int), l[a]? = some x → l[b]? = some x → a = b
theorem row_inj (n : Nat) : Inj (row n) := by
  intro a b x ha hb
  simp only [row, List.getElem?_map, Option.map_eq_some_iff] at ha hb
  obtain ⟨u, hu, rfl⟩ := ha
  obtain ⟨v, hv, hvu⟩ := hb
  have h1 := (List.getElem?_eq_some_iff.1 hu)
  have h2 := (List.getElem?_eq_some_iff.1 hv)
  simp at h1 h2
  omega
theorem sw_inj {l : List Int} {i k : Nat} (h : Inj l) (hi : i < l.length) (hk : k < l.length) : Inj (sw l i k) := by
  obtain ⟨x, hx⟩ : ∃ x, l[i]? = some x := ⟨_, List.getElem?_eq_getElem hi⟩
  obtain ⟨y, hy⟩ : ∃ y, l[k]? = some y := ⟨_, List.getElem?_eq_getElem hk⟩
  have key : ∀ a, (sw l i k)[a]? = l[if a = k then i else if a = i then k else a]? := by
    intro a
    rw [sw_at hx hy]
    split
    · exact hx.symm
    · split
      · exact hy.symm
      · rfl
  intro a b z ha hb
  rw [key] at ha hb
  have := h _ _ _ ha hb
  repeat' split at this
  all_goals omega
theorem pl_lt {ws : List Int} {q n j : Nat} (h : ∀ x ∈ ws, 0 ≤ x ∧ x ≤ 4294967295) (hj : j < n) (hn : n ≤ 4294967295) : j + pl ws q (n - j) < n := by
  have hx : 0 ≤ ws.getD q 0 ∧ ws.getD q 0 ≤ 4294967295 := by
    rw [List.getD_eq_getElem?_getD]
    cases hq : ws[q]? with
    | none => simp
    | some x => exact h x (List.mem_of_getElem? hq)
  obtain ⟨n0, n1⟩ := num_range hx.1 hx.2 (show 0 < ((n - j : Nat) : Int) by omega)
  unfold pl
  omega
theorem sme_inj {ws : List Int} {p n : Nat} (h : ∀ x ∈ ws, 0 ≤ x ∧ x ≤ 4294967295) (hn : n ≤ 4294967295) : ∀ j, j ≤ n → Inj (sme ws p n j)
  | 0, _ => row_inj n
  | j + 1, hj => sw_inj (sme_inj h hn j (by omega)) (by rw [sme_length]; omega) (by rw [sme_length]; exact pl_lt h (by omega) hn)
theorem take_next {l : List Int} {j k : Nat} {x y : Int} (hx : l[j]? = some x) (hy : l[k]? = some y) (hjk : j ≤ k) : (sw l j k).take (j + 1) = l.take j ++ [y] := by
  have hsw := sw_at hx hy j
  have h1 : (sw l j k)[j]? = some y := by
    rw [hsw]
    by_cases h : j = k
    · subst h; rw [if_pos rfl]; rw [hx] at hy; exact hy
    · rw [if_neg h, if_pos rfl]
  rw [List.take_add_one, h1, ← sw_get hx hy, List.take_set, List.take_set, List.set_eq_of_length_le (by simp; omega), List.set_eq_of_length_le (by simp; omega)]
  rfl
/-- the map says what stands at the places from j on -/
def Vw (D : DataW Unit) (S : List Int) (j N : Nat) : Prop := ∀ x : Nat, j ≤ x → x < N → ∃ y, S[x]? = some y ∧ (Maps.has D (.int .i64 x) = true → ∀ z, D.atKey (.int .i64 x) z = .lit (.int .i64 y)) ∧ (Maps.has D (.int .i64 x) = false → y = (x : Int))
theorem Vw.start (n : Nat) : Vw (.map []) (row n) 0 n := fun x _ hx => ⟨x, by simp [row, hx], fun h => by simp [Maps.has] at h, fun _ => rfl⟩
theorem isKey_int (x : Int) : WideAt.IsKeyLit (Lit.int .i64 x) := trivial
theorem Vw.next {D : DataW Unit} {S : List Int} {j k N : Nat} {x y : Int} (h : Vw D S j N) (ht : Maps.Tidy D) (hx : S[j]? = some x) (hy : S[k]? = some y) (hjk : j ≤ k) : Vw (D.put (.int .i64 (k : Int)) (.lit (.int .i64 x))) (sw S j k) (j + 1) N := by
  intro a ha haN
  rw [sw_at hx hy]
  by_cases hak : a = k
  · subst hak
    refine ⟨x, by simp, fun _ z => Maps.atKey_put_same ht.isMap (isKey_int _) _ z, fun hh => ?_⟩
    rw [Maps.has_put_same ht.isMap (isKey_int _)] at hh; cases hh
  · have hne : (Lit.int .i64 (a : Int)) ≠ .int .i64 (k : Int) := fun e => by injection e with _ e; omega
    obtain ⟨z, h1, h2, h3⟩ := h a (by omega) haN
    refine ⟨z, ?_, fun hh z' => ?_, fun hh => ?_⟩
    · rw [if_neg hak, if_neg (by omega)]; exact h1
    · rw [Maps.has_put_other hne] at hh
      rw [Maps.atKey_put_other hne]; exact h2 hh z'
    · rw [Maps.has_put_other hne] at hh; exact h3 hh
end ShufP
abbrev MI : TypeId := 70
theorem intLaw : Keyed Try.prog 3 := int_keyed Try.underlying3
theorem zeroInt (w : World) : (zeroValue 3).run Try.prog w = .ok (.int .i64 0) w := by kernel_rfl
/-- the map at block b says what stands at the places from j on -/
def Ms (w : World) (b n : Nat) (S : List Int) (j N : Nat) : Prop := ∃ D, w.ownsMap Try.prog 3 (plainElem Try.prog 3) b n D ∧ Vw D S j N
theorem wf_small {x : Nat} (h : x ≤ 65536) : (Lit.int .i64 (x : Int)).wf = true := by
  exact WalkArith.wf_i64 (by omega)
theorem Ms.kept {w w' : World} {b n j N : Nat} {S : List Int} (h : Ms w b n S j N) {row : Option Nat} (hg : w.grownBy w' row) (hne : some b ≠ row) : Ms w' b n S j N := by
  obtain ⟨D, h1, h2⟩ := h
  exact ⟨D, h1.kept hg hne, h2⟩
theorem Ms.below {w w' : World} {b n j N : Nat} {S : List Int} (h : Ms w b n S j N) (hb : Below w.heap.size w w') : Ms w' b n S j N :=
  h.kept (row := none) ⟨hb.os, hb.tape, hb.output, hb.size, fun k hk _ => hb.block k hk⟩ (by simp)
theorem Ms.lt {w : World} {b n j N : Nat} {S : List Int} (h : Ms w b n S j N) : b < w.heap.size := by obtain ⟨D, h1, _⟩ := h; exact h1.lt
set_option maxRecDepth 100000 in
theorem Ms.look {w : World} {b n j N x : Nat} {S : List Int} (h : Ms w b n S j N) (hj : j ≤ x) (hx : x < N) (hN : N ≤ 65536) :
    ∃ c ok y, (Instr.lookup MI (.map (some b)) (.int .i64 (x : Int)) true).run Try.prog w = .ok (.tuple #[.int .i64 c, .bool ok]) w ∧ S[x]? = some y ∧ (ok = true → c = y) ∧ (ok = false → y = (x : Int)) := by
  obtain ⟨D, h1, h2⟩ := h
  obtain ⟨v, ps, hrun, hv⟩ := h1.look_ok intLaw Try.underlying70 (zeroInt w) (plainElem_int Try.underlying3 (show (Lit.int .i64 0).wf = true by decide)) (keyOf_int_mk Try.underlying3 (wf_small (by omega : x ≤ 65536)))
  obtain ⟨c, rfl, hc, _⟩ := plainElem_int_inv Try.underlying3 hv
  have hc' : D.atKey (.int .i64 (x : Int)) (.lit (.int .i64 0)) = .lit (.int .i64 c) := congrArg Prod.fst hc
  obtain ⟨y, y1, y2, y3⟩ := h2 x hj hx
  refine ⟨c, _, y, hrun, y1, fun hh => ?_, y3⟩
  rw [y2 hh] at hc'
  injection hc' with hc'
  injection hc' with _ hc'
  exact hc'.symm
theorem Ms.store {w : World} {b n j k N : Nat} {S : List Int} {x y : Int} (h : Ms w b n S j N) (hn : n < maxLen) (hx : S[j]? = some x) (hy : S[k]? = some y) (hjk : j ≤ k) (hk : k ≤ 65536) (hw : (Lit.int .i64 x).wf = true) :
    ∃ w', (Instr.mapUpdate MI (.map (some b)) (.int .i64 (k : Int)) (.int .i64 x)).run Try.prog w = .ok () w' ∧ Ms w' b (n + 1) (sw S j k) (j + 1) N ∧ w.grownBy w' (some b) := by
  obtain ⟨D, h1, h2⟩ := h
  obtain ⟨w', hrun, r1, r2⟩ := h1.store intLaw Try.underlying70 hn (keyOf_int_mk Try.underlying3 (wf_small hk)) (plainElem_int Try.underlying3 hw)
  exact ⟨w', hrun, ⟨_, r1, h2.next (h1.tidy intLaw) hx hy hjk⟩, r2.grown⟩
theorem Ms.made (w : World) (N : Nat) : Ms (w.alloc (.map #[] 0)) w.heap.size 0 (row N) 0 N := ⟨.map [], World.ownsMap_made _ _ _ _, Vw.start N⟩
set_option maxRecDepth 100000 in
/-- the closure 'at' -/
theorem some_at (B b n j N x : Nat) (S : List Int) (w : World) (h : Ms w b n S j N) (hj : j ≤ x) (hx : x < N) (hN : N ≤ 65536) (hc : w.cell? ⟨B, 0, none⟩ = some (.map (some b))) :
    Calls Try.prog 43 #[.int .i64 (x : Int), .pointer (some ⟨B, 0, none⟩)] w fun e w' => (∃ y, e = .returned (.int .i64 y) ∧ S[x]? = some y) ∧ w' = w := by
  obtain ⟨c, ok, y, hrun, h1, h2, h3⟩ := h.look hj hx hN
  have H1 := hide h1
  cases ok with
  | true =>
    have H2 := hide (h2 rfl)
    clear h h1 h2 h3
    go_enter Try.func43, Try.ntmps43
    go_wp2_with fail
    go_ret
    exact ⟨⟨c, rfl, by rw [H2.out]; exact H1.out⟩, rfl⟩
  | false =>
    have H2 := hide (h3 rfl)
    clear h h1 h2 h3
    go_enter Try.func43, Try.ntmps43
    go_wp2_with fail
    go_ret
    exact ⟨⟨_, rfl, by have := H1.out; rw [H2.out] at this; exact this⟩, rfl⟩
end Go.Proofs.Ytalecppofemcnaa
