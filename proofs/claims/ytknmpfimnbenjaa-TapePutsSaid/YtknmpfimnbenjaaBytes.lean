/-
  Rows of bytes: slices.Clone; a text behind a row of bytes.
-/
import Derived.Test.YtknmpfimnbenjaaOwn
import Derived.Test.YtknmpfimnbenjaaEqB
import Derived.Test.YtknmpfimnbenjaaPackPlain
import Derived.Lib.AppendStr
import Derived.WalkSpells
namespace Go.Proofs.Ytknmpfimnbenjaa
open Go.RowKit HB PackP
set_option linter.unusedVariables false
set_option linter.unusedSimpArgs false
theorem Byte.info : (Try.prog.info? 5).map (fun i => (i.zero, i.size, i.bytes)) = some (some (.int .u8 0), 1, 1) := by kernel_rfl
abbrev OwnB (w : World) (base : Nat) (v : Value) (l : List Int) : Prop := Own w base 5 1 (num .u8) v l
theorem OwnB.empty (w : World) : OwnB (w.alloc (.cells #[] 5)) w.heap.size (.slice (some ⟨w.heap.size, 0, none⟩) 0 0) [] :=
  Own.block (base := w.heap.size) (f := num .u8) (sz := 1) w 5 #[] [] (Nat.le_refl _) rfl (fun _ => rfl) (by simp)
/-- a text's bytes as numbers -/
def txt (s : ByteArray) : List Int := s.data.toList.map fun b => (b.toNat : Int)
theorem txt_cells (s : ByteArray) : (txt s).flatMap (num .u8) = Lib.strCells s := by
  rw [map_flat]
  simp [txt, Lib.strCells]
theorem txt_length (s : ByteArray) : (txt s).length = s.size := by
  show (List.map _ _).length = s.data.size
  rw [List.length_map, Array.length_toList]
set_option maxRecDepth 100000 in
/-- 'append(out, s...)', s a text -/
theorem pushText {base : Nat} {w : World} {v : Value} {l : List Int} {ops : Array Oper} {rest : List Oper} {o : Oper} {a : Act} {Q : Exit → Act → World → Prop} (hgd : o.guard = none) (s x : Operand) (t u : TypeId)
    (ho : o.op = .call { callee := .builtin .append, args := #[s, x], argTypes := #[t, u] }) (ht : Try.prog.underlying t = some (.slice 5)) (hu : Try.prog.underlying u = some .string)
    (hs : a.eval s = v) (hown : OwnB w base v l) (y : ByteArray) (hx : a.eval x = .string y) (hn : l.length ≤ 1000000000) (hm : y.size ≤ 1000000000) (hbase : base ≤ w.heap.size)
    (h : ∀ v' w', OwnB w' base v' (l ++ txt y) → Below base w w' → wpList Try.prog ops Q rest (a.put o.dst v') w') : wpList Try.prog ops Q (o :: rest) a w := by
  obtain ⟨i, hi, hz, hzz, hbb⟩ := info_parts Byte.info
  refine Lib.wpList_append_own_string w hgd s x t u ho base 5 i ht hu hi hz hzz hbb v l.length (l.flatMap (num .u8)) hs hown.row y hx (by simp only [maxLen]; omega) (by omega) hbase (fun v' w' k1 k2 _ => h v' w' ?_ ((Below.refl base w).grown k2 hbase (fun k hk => (hown.row.lt k hk).1)))
  show w'.ownsRow base 5 1 v' (l ++ txt y).length ((l ++ txt y).flatMap (num .u8))
  rw [List.length_append, txt_length, List.flatMap_append, txt_cells]
  exact k1
set_option maxRecDepth 100000 in
set_option maxHeartbeats 1000000 in
theorem clone_bytes (A : Option Addr) (n c B : Nat) (l : List Int) (w : World) (hr : Rd w B 1 A n (l.map (Value.int .u8))) (hB : B ≤ w.heap.size) (hl : l.length = n) (hn : n ≤ 1000000) :
    Calls Try.prog 15 #[.slice A n c] w fun e w' => ∃ v, e = .returned v ∧ OwnB w' w.heap.size v l ∧ Below w.heap.size w w' := by
  have Hl := hide hl
  have HR := hide hr
  have hO0 := hide (OwnB.empty w)
  cases A with
  | none =>
    have h0 : n = 0 := by
      rcases Nat.eq_zero_or_pos n with h | h
      · exact h
      · obtain ⟨b, off, hA, _⟩ := hr.2 h
        cases hA
    subst h0
    have h1 : l = [] := List.eq_nil_of_length_eq_zero hl
    subst h1
    have hq := fun (W : World) => Lib.run_eql_slice_nil (P := Try.prog) W 22 5 none 0 c 0 0 Try.underlying22
    clear hl hr
    go_enter Try.func15, Try.ntmps15
    go_wp2_with fail
    go_ret
    exact ⟨_, rfl, Own.nil _ _ _ _ _, Below.refl _ _⟩
  | some p =>
    have hq := fun (W : World) => Lib.run_eql_slice_nil (P := Try.prog) W 22 5 (some p) n c 0 0 Try.underlying22
    clear hl hr
    go_enter Try.func15, Try.ntmps15
    go_wp2_with (at_builtin; refine pushAll rfl _ _ 22 rfl Try.underlying22 Byte.info rfl (by omega) (by omega) rfl hO0.out l w.heap.size (some p) n c rfl Hl.out (by rw [map_flat]; exact (HR.out.mono hB).alloc (Nat.le_refl _) _) (by rw [map_flat]; intro u hu; obtain ⟨z, _, rfl⟩ := List.mem_map.1 hu; rfl) (by simp) (by omega) (by go_size) ?_; intro v w1 hown hb1)
    rw [List.nil_append] at hown
    have hbel := (show Below w.heap.size w _ from (Below.refl _ _).alloc (Nat.le_refl _) _).trans hb1
    go_ret
    exact ⟨_, rfl, hown, hbel⟩
end Go.Proofs.Ytknmpfimnbenjaa
