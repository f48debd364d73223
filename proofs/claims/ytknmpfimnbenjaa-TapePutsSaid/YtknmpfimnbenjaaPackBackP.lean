/-
  Numbers and texts as bytes, one behind the other, plainly: what was put is read.
-/
import Derived.Test.YtknmpfimnbenjaaPackStep
namespace Go.Proofs.Ytknmpfimnbenjaa
open Go.RowKit HB PackP
set_option linter.unusedVariables false
set_option linter.unusedSimpArgs false
namespace HB
/-- One text an element. -/
abbrev str : ByteArray → List Value := fun s => [Value.string s]
theorem str_len (s : ByteArray) : (str s).length = 1 := rfl
theorem str_flat (l : List ByteArray) : l.flatMap str = l.map Value.string := by
  induction l with
  | nil => rfl
  | cons a l ih => simp [List.flatMap_cons, ih]
/-- An element of a slice of texts. -/
theorem Rd.str_at {w : World} {B n : Nat} {A : Option Addr} {l : List ByteArray} (h : Rd w B 1 A n (l.flatMap str)) (hl : l.length = n) {i : Nat} (hi : i < n) :
    ∃ b off x, A = some ⟨b, off, none⟩ ∧ b < B ∧ l[i]? = some x ∧ w.cell? ⟨b, off + i, none⟩ = some (.string x) := by
  rw [str_flat] at h
  obtain ⟨b, off, hA, hb, hc⟩ := h.at_ (by omega)
  have hg : l[i]? = some (l[i]'(by omega)) := List.getElem?_eq_getElem _
  exact ⟨b, off, _, hA, hb, hg, hc i _ (by rw [List.getElem?_map, hg]; rfl)⟩
end HB
namespace PackP
def e1 (l : List Int) : List Int := l.flatMap fun x => put (fold x)
def e2 (l : List ByteArray) : List Int := l.flatMap fun s => put s.size ++ txt s
theorem txt_in (s : ByteArray) : ∀ x ∈ txt s, 0 ≤ x ∧ x < 256 := by
  intro x hx
  unfold txt at hx
  obtain ⟨b, _, rfl⟩ := List.mem_map.1 hx
  have := b.toNat_lt
  omega
theorem e1_in (l : List Int) : ∀ x ∈ e1 l, 0 ≤ x ∧ x < 256 := by
  intro x hx
  obtain ⟨y, _, h⟩ := List.mem_flatMap.1 hx
  exact put_in _ x h
theorem e2_in (l : List ByteArray) : ∀ x ∈ e2 l, 0 ≤ x ∧ x < 256 := by
  intro x hx
  obtain ⟨y, _, h⟩ := List.mem_flatMap.1 hx
  rcases List.mem_append.1 h with h | h
  · exact put_in _ x h
  · exact txt_in _ x h
theorem e_in (l : List Int) (s : List ByteArray) : ∀ x ∈ e1 l ++ e2 s, 0 ≤ x ∧ x < 256 := by
  intro x hx
  rcases List.mem_append.1 hx with h | h
  · exact e1_in _ x h
  · exact e2_in _ x h
theorem e1_len : ∀ (l : List Int), (∀ x ∈ l, -9223372036854775808 ≤ x ∧ x ≤ 9223372036854775807) → (e1 l).length ≤ 10 * l.length
  | [], _ => by simp [e1]
  | x :: l, h => by
    have ih := e1_len l (fun y hy => h y (List.mem_cons_of_mem _ hy))
    have hx := h x (List.mem_cons_self ..)
    have := put_ten (fold_lt hx.1 hx.2)
    unfold e1 at ih ⊢
    rw [List.flatMap_cons, List.length_append, List.length_cons]
    omega
theorem e2_len : ∀ (l : List ByteArray), (∀ x ∈ l, x.size ≤ 100) → (e2 l).length ≤ 110 * l.length
  | [], _ => by simp [e2]
  | x :: l, h => by
    have ih := e2_len l (fun y hy => h y (List.mem_cons_of_mem _ hy))
    have hx := h x (List.mem_cons_self ..)
    have := put_ten (n := x.size) (by omega)
    unfold e2 at ih ⊢
    rw [List.flatMap_cons, List.length_append, List.length_append, List.length_cons, txt_length]
    omega
theorem e1_snoc {l : List Int} {k : Nat} {x : Int} (h : l[k]? = some x) : e1 (l.take (k + 1)) = e1 (l.take k) ++ put (fold x) := by
  rw [take_snoc h]; simp [e1]
theorem stake_snoc {l : List ByteArray} {k : Nat} {x : ByteArray} (h : l[k]? = some x) : l.take (k + 1) = l.take k ++ [x] := by
  rw [List.take_add_one, h]; rfl
theorem e2_snoc {l : List ByteArray} {k : Nat} {x : ByteArray} (h : l[k]? = some x) : e2 (l.take (k + 1)) = e2 (l.take k) ++ put x.size ++ txt x := by
  rw [stake_snoc h]; simp [e2]
theorem drop_cons' {α : Type} {l : List α} {k : Nat} {x : α} (h : l[k]? = some x) : l.drop k = x :: l.drop (k + 1) := by
  obtain ⟨h10, h11⟩ := List.getElem?_eq_some_iff.1 h
  rw [← h11, List.getElem_cons_drop]
theorem e1_drop {l : List Int} {k : Nat} {x : Int} (h : l[k]? = some x) : e1 (l.drop k) = put (fold x) ++ e1 (l.drop (k + 1)) := by
  rw [drop_cons' h]; simp [e1]
theorem e2_drop {l : List ByteArray} {k : Nat} {x : ByteArray} (h : l[k]? = some x) : e2 (l.drop k) = put x.size ++ (txt x ++ e2 (l.drop (k + 1))) := by
  rw [drop_cons' h]; simp [e2]
theorem read_put {v : Nat} (h : v < 18446744073709551616) (t : List Int) (bad : Bool) : nv (put v ++ t) = v ∧ nr (put v ++ t) = t ∧ nb (put v ++ t) bad = bad := by
  have := nv_some (num_put h t) bad
  rw [List.drop_left] at this
  exact this
theorem str_txt (s : ByteArray) : strOfNums (txt s) = s := by
  obtain ⟨⟨l⟩⟩ := s
  unfold strOfNums txt
  simp only [List.map_map]
  congr 2
  have : ((fun (n : Int) => UInt8.ofNat n.toNat) ∘ fun (b : UInt8) => (b.toNat : Int)) = id := by
    funext b
    simp
  rw [this]
  simp
theorem text_put {s : ByteArray} (h : s.size ≤ 1000000) (t : List Int) (bad : Bool) : tv (put s.size ++ (txt s ++ t)) = s ∧ tr (put s.size ++ (txt s ++ t)) = t ∧ tb (put s.size ++ (txt s ++ t)) bad = bad := by
  obtain ⟨h1, h2, h3⟩ := read_put (v := s.size) (by omega) (txt s ++ t) bad
  have hl := txt_length s
  unfold tv tr tb
  rw [h1, h2, h3, if_neg (by rw [List.length_append]; omega), if_neg (by rw [List.length_append]; omega), if_neg (by rw [List.length_append]; omega)]
  refine ⟨?_, ?_, rfl⟩
  · rw [← hl, List.take_left]; exact str_txt s
  · rw [← hl, List.drop_left]
theorem sub_take {l : List Int} {k : Nat} {P : Int → Prop} (h : ∀ x ∈ l, P x) : ∀ x ∈ l.take k, P x := fun x hx => h x (List.mem_of_mem_take hx)
theorem sub_drop {l : List Int} {k : Nat} {P : Int → Prop} (h : ∀ x ∈ l, P x) : ∀ x ∈ l.drop k, P x := fun x hx => h x (List.mem_of_mem_drop hx)
theorem ssub_drop {l : List ByteArray} {k : Nat} {P : ByteArray → Prop} (h : ∀ x ∈ l, P x) : ∀ x ∈ l.drop k, P x := fun x hx => h x (List.mem_of_mem_drop hx)
end PackP
end Go.Proofs.Ytknmpfimnbenjaa
