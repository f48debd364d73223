/- Rows that beat rows, plainly. -/
namespace Go.Proofs.Ytkgkilogjodccaa.ParetoP
set_option linter.unusedVariables false
def lt (p : Int × Int) : Bool := decide (p.1 < p.2)
def gt (p : Int × Int) : Bool := decide (p.2 < p.1)
/-- is a row nowhere greater than another one of as many numbers, and somewhere less? -/
def bt (l m : List Int) : Bool := l.length == m.length && !(l.zip m).any gt && (l.zip m).any lt
theorem any_next {α : Type} {z : List α} {k : Nat} {p : α} (f : α → Bool) (h : z[k]? = some p) : (z.take (k + 1)).any f = ((z.take k).any f || f p) := by
  rw [List.take_add_one, h, List.any_append]; simp
theorem zip_get {l m : List Int} {k : Nat} {x y : Int} (hx : l[k]? = some x) (hy : m[k]? = some y) : (l.zip m)[k]? = some (x, y) := by
  simp [List.zip, List.getElem?_zipWith, hx, hy]
theorem zip_all (l m : List Int) (n : Nat) (hl : l.length = n) (hm : m.length = n) : (l.zip m).take n = l.zip m := List.take_of_length_le (by simp [hl, hm])
theorem bt_len {l m : List Int} (h : l.length ≠ m.length) : bt l m = false := by unfold bt; simp [h]
theorem bt_gt {l m : List Int} {k : Nat} {x y : Int} (hx : l[k]? = some x) (hy : m[k]? = some y) (h : y < x) : bt l m = false := by
  have : (l.zip m).any gt = true := List.any_eq_true.2 ⟨(x, y), List.mem_of_getElem? (zip_get hx hy), by simpa [gt] using h⟩
  unfold bt; simp [this]
theorem bt_end {l m : List Int} (h : l.length = m.length) (hg : (l.zip m).any gt = false) : bt l m = (l.zip m).any lt := by unfold bt; simp [h, hg]
/-- is a row beaten by one of some rows? -/
def beaten (ls : List (List Int)) (a : List Int) : Bool := ls.any fun b => bt b a
/-- the places of those of the first i rows that none of all beats -/
def front (ls : List (List Int)) (i : Nat) : List Int := ((List.range i).filter fun j => !beaten ls (ls.getD j [])).map Int.ofNat
theorem front_zero (ls : List (List Int)) : front ls 0 = [] := rfl
theorem front_in {ls : List (List Int)} {i : Nat} {a : List Int} (h : ls[i]? = some a) (hb : beaten ls a = false) : front ls (i + 1) = front ls i ++ [(i : Int)] := by
  unfold front
  rw [List.range_succ, List.filter_append]
  simp [List.getD, h, hb]
theorem front_out {ls : List (List Int)} {i : Nat} {a : List Int} (h : ls[i]? = some a) (hb : beaten ls a = true) : front ls (i + 1) = front ls i := by
  unfold front
  rw [List.range_succ, List.filter_append]
  simp [List.getD, h, hb]
theorem front_length (ls : List (List Int)) (i : Nat) : (front ls i).length ≤ i := by
  unfold front
  rw [List.length_map]
  exact Nat.le_trans (List.length_filter_le _ _) (by simp)
end Go.Proofs.Ytkgkilogjodccaa.ParetoP
