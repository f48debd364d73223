/-
  Orders drawn by words, plainly.
-/
import Derived.Test.YtalecppofemcnaaPickPlain
namespace Go.Proofs.Ytalecppofemcnaa.ShufP
set_option linter.unusedVariables false
/-- the numbers below n -/
def row (n : Nat) : List Int := (List.range n).map fun (i : Nat) => (i : Int)
theorem row_length (n : Nat) : (row n).length = n := by simp [row]
theorem row_next (n : Nat) : row n ++ [(n : Int)] = row (n + 1) := by simp [row, List.range_succ]
/-- two places changed -/
def sw (l : List Int) (i k : Nat) : List Int := (l.set i (l.getD k 0)).set k (l.getD i 0)
theorem sw_length (l : List Int) (i k : Nat) : (sw l i k).length = l.length := by simp [sw]
/-- which place the word at p is for, below b -/
def pl (ws : List Int) (p b : Nat) : Nat := (PickP.num (ws.getD p 0) b).toNat
/-- the order after j words, from the word at p on -/
def ord (ws : List Int) (p n : Nat) : Nat → List Int
  | 0 => row n
  | j + 1 => sw (ord ws p n j) (n - 1 - j) (pl ws (p + j) (n - j))
theorem ord_length (ws : List Int) (p n : Nat) : ∀ j, (ord ws p n j).length = n
  | 0 => row_length n
  | j + 1 => by simp [ord, sw_length, ord_length ws p n j]
/-- the first k places have their numbers -/
def fil (n k : Nat) : List Int := (List.range n).map fun (v : Nat) => if v < k then (v : Int) else 0
theorem fil_length (n i : Nat) : (fil n i).length = n := by simp [fil]
theorem fil_zero (n : Nat) : fil n 0 = List.replicate n 0 := by
  apply List.ext_getElem?
  intro i
  by_cases hi : i < n <;> simp [fil, hi]
theorem fil_next (n i : Nat) : (fil n i).set i (i : Int) = fil n (i + 1) := by
  apply List.ext_getElem?
  intro j
  rw [List.getElem?_set, fil_length]
  by_cases hi : i = j
  · subst hi
    by_cases hq : i < n <;> simp [fil, hq]
  · rw [if_neg hi]
    by_cases hn : j < n
    · have : (j < i + 1) = (j < i) := by apply propext; omega
      simp [fil, hn, this]
    · simp [fil, hn]
theorem fil_end (n : Nat) : fil n n = row n := by
  unfold fil row
  apply List.map_congr_left
  intro v hv
  rw [if_pos (List.mem_range.1 hv)]
theorem sw_get {l : List Int} {i k : Nat} {x y : Int} (hx : l[i]? = some x) (hy : l[k]? = some y) : (l.set i y).set k x = sw l i k := by
  simp [sw, hx, hy]
end Go.Proofs.Ytalecppofemcnaa.ShufP
