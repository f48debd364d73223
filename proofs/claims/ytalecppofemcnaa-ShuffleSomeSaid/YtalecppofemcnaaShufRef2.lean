/-
  The walk of the document's own Order; and of the law's helpers left and same.
-/
import Derived.Test.YtalecppofemcnaaShufRef
import Derived.Test.YtalecppofemcnaaEqInt
namespace Go.Proofs.Ytalecppofemcnaa
open Go.RowKit HB PickP ShufP
set_option linter.unusedVariables false
set_option linter.unusedSimpArgs false
namespace ShufP
/-- the words that are left -/
def lw (ws : List Int) (at_ : Int) : List Int := if at_ < 0 ∨ (ws.length : Int) < at_ then [] else ws.drop at_.toNat
theorem ord_drop (ws : List Int) (p n : Nat) : ∀ j, ord (ws.drop p) 0 n j = ord ws p n j
  | 0 => rfl
  | j + 1 => by
    simp only [ord, ord_drop ws p n j, pl, Nat.zero_add]
    rw [List.getD_eq_getElem?_getD, List.getD_eq_getElem?_getD, List.getElem?_drop]
theorem ord_few (ws ws' : List Int) (p p' n : Nat) (h : n ≤ 1) : ∀ j, j ≤ n - 1 → ord ws p n j = ord ws' p' n j := by
  intro j hj
  obtain rfl : j = 0 := by omega
  rfl
end ShufP
def Left69.Post (B : Nat) (ws : List Int) (at_ : Int) (w : World) (e : Ending) (w' : World) : Prop :=
  (∃ A' c', e = .returned (.slice A' (lw ws at_).length c') ∧ Rd w' B 1 A' (lw ws at_).length ((lw ws at_).map (Value.int .u32))) ∧ Below w.heap.size w w'
set_option maxHeartbeats 1000000 in
theorem left69 (A : Option Addr) (n c B : Nat) (at_ : Int) (ws : List Int) (w : World) (hr : Rd w B 1 A n (ws.map (Value.int .u32))) (hB : B ≤ w.heap.size) (hl : ws.length = n) (hc : n ≤ c) :
    Calls Try.prog 16 #[Words.st A n c at_] w (Left69.Post B ws at_ w) := by
  have Hl := hide hl
  have HR := hide hr
  by_cases h0 : at_ < 0
  · have hw := hide (show lw ws at_ = [] by unfold lw; rw [if_pos (.inl h0)])
    clear hr hl
    go_enter Try.func16, Try.ntmps16
    go_wp2_with fail
    go_ret
    unfold Left69.Post
    rw [hw.out]
    exact ⟨⟨none, 0, rfl, Rd.nil⟩, by go_grown⟩
  · by_cases h1 : (n : Int) < at_
    · have hw := hide (show lw ws at_ = [] by unfold lw; rw [if_pos (.inr (by omega))])
      clear hr hl
      go_enter Try.func16, Try.ntmps16
      go_wp2_with fail
      go_ret
      unfold Left69.Post
      rw [hw.out]
      exact ⟨⟨none, 0, rfl, Rd.nil⟩, by go_grown⟩
    · obtain ⟨k, rfl⟩ := Int.eq_ofNat_of_zero_le (show 0 ≤ at_ by omega)
      have hw := hide (show lw ws k = ws.drop k by unfold lw; rw [if_neg (by omega)]; rfl)
      have hlen := hide (show (ws.drop k).length = n - k by rw [List.length_drop, hl])
      have hcut := hr.cut (k := k) (cap := c) (by omega) hc
      have i0 : (0 : Int) ≤ (k : Int) := by omega
      have i1 : (k : Int) ≤ (n : Int) := by omega
      have i2 : (n : Int) ≤ (c : Int) := by omega
      by_cases hck : c = k
      · rw [if_pos hck, Nat.mul_one, ← List.map_drop] at hcut
        have hnk : n = k := by omega
        subst hck
        subst hnk
        rw [Nat.sub_self] at hcut hlen
        have HC := hide hcut
        clear hr hl hcut
        go_enter Try.func16, Try.ntmps16
        go_wp2_with fail
        go_ret
        unfold Left69.Post
        rw [hw.out, hlen.out]
        exact ⟨⟨_, _, rfl, HC.out.alloc hB _⟩, by go_grown⟩
      · rw [if_neg hck, Nat.mul_one, ← List.map_drop] at hcut
        have HC := hide hcut
        have hck1 : ¬ (c = k) := hck
        have hck2 : k < c := by omega
        clear hr hl hcut
        go_enter Try.func16, Try.ntmps16
        go_wp2_with fail
        go_ret
        unfold Left69.Post
        rw [hw.out, hlen.out]
        exact ⟨⟨_, _, rfl, HC.out.alloc hB _⟩, by go_grown⟩

theorem same69 (A : Option Addr) (n c B : Nat) (x y u : Int) (ws : List Int) (hn : n ≤ 1000000000) (hx : -9223372036854775808 ≤ x - u ∧ x - u ≤ 9223372036854775807) (he : x - u = y) (w : World) (hr : Rd w B 1 A n (ws.map (Value.int .u32))) (hB : B ≤ w.heap.size) :
    Calls Try.prog 13 #[Words.st A n c x, Words.st A n c y, .int .i64 u] w fun e w' => e = .returned (.bool true) ∧ Below w.heap.size w w' := by
  have HR := hide ((hr.alloc hB (Words.box A n c x)).alloc (by simp; omega) (Words.box A n c y))
  have hb : ((x - u) == y) = true := by simpa using he
  have hx1 := hx.1
  have hx2 := hx.2
  clear he hr hx
  go_enter Try.func13, Try.ntmps13
  go_wp2_with (go_at_call 38; refine (eqU32 _ _ _ _ _ _ B B ws ws _ HR.out HR.out hn hn).mono ?_; rintro e w2 ⟨rfl, m, rfl⟩; simp only [decide_true])
  go_ret
  exact ⟨rfl, below_drewN (by go_grown) _⟩

def RefOrder.Post (n m : Nat) (ws : List Int) (w : World) (e : Ending) (w' : World) : Prop :=
  Below w.heap.size w w' ∧ ((m + 1 < n ∧ e = .returned (.tuple #[.slice none 0 0, .int .i64 0, .bool false])) ∨
    (n ≤ m + 1 ∧ ∃ v, e = .returned (.tuple #[v, .int .i64 (n - 1 : Nat), .bool true]) ∧ Own w' w.heap.size 3 1 (num .i64) v (ord ws 0 n (n - 1))))
set_option maxRecDepth 100000 in
set_option maxHeartbeats 4000000 in
theorem ref_order_pos (A : Option Addr) (n m c B : Nat) (ws : List Int) (w : World) (hr : Rd w B 1 A m (ws.map (Value.int .u32))) (hB : B ≤ w.heap.size) (hl : ws.length = m) (hw : ∀ x ∈ ws, (Lit.int .u32 x).wf = true) (hm : m ≤ 1000) (hn : n ≤ 300) (h0 : 0 < n) :
    Calls Try.prog 15 #[.int .i64 n, .slice A m c] w (RefOrder.Post n m ws w) := by
  have Hl := hide hl
  have HR := hide hr
  have Hw := hide hw
  clear hl hr hw
  go_enter Try.func15, Try.ntmps15
  go_wp2_with (go_at_call 39; refine (ref_row n hn _).mono ?_; rintro e w1 ⟨⟨v, rfl, hown⟩, hb1⟩)
  have HO0 := hide hown
  clear hown
  go_loopw [7, 8, 9] (fun o u i wr => ∃ j q : Nat, q + j + 1 = n ∧ i = .int .i64 q ∧ u = .int .i64 j ∧ j ≤ m ∧ Own wr w.heap.size 3 1 (num .i64) o (ord ws 0 n j) ∧ Below w.heap.size w wr) (fun _ _ i _ => (intOf i).toNat)
  case atStart => exact ⟨0, n - 1, by omega, congrArg _ (by omega), rfl, by omega, HO0.out, hb1⟩
  case round =>
    clear HO0 hb1
    obtain ⟨j, q, hjq, rfl, rfl, hjm, hown, hbel⟩ := hrel
    have HO := hide hown
    have hz := hbel.size
    clear hown
    by_cases hq : 0 < q
    · by_cases hj : j = m
      · subst hj
        have hself : ((j : Int) == (j : Int)) = true := by simp
        go_wp2_with fail
        refine bodyPost_ret (v := .tuple #[.slice none 0 0, .int .i64 0, .bool false]) (by simp [results, Try.results15, go_sem]) rfl ⟨hbel, .inl ⟨by omega, rfl⟩⟩
      · have hjl : j < m := by omega
        have hself : ((j : Int) == (m : Int)) = false := by rw [beq_eq_false_iff_ne]; omega
        obtain ⟨b, off, x, rfl, hb, hg, c0⟩ := (HR.out.below (hbel.mono hB)).int_at Hl.out hjl
        obtain ⟨x0, x1⟩ := bounds_u32 (Hw.out x (List.mem_of_getElem? hg))
        obtain ⟨n0, n1⟩ := num_range x0 x1 (show 0 < (q : Int) + 1 by omega)
        obtain ⟨d, hdd⟩ := Int.eq_ofNat_of_zero_le n0
        have hpl := hide (show ord ws 0 n (j + 1) = sw (ord ws 0 n j) q d by
          simp only [ord, pl, Nat.zero_add]
          rw [List.getD_eq_getElem?_getD, hg, Option.getD_some, show ((n - j : Nat) : Int) = (q : Int) + 1 by omega, hdd, show n - 1 - j = q by omega]
          rfl)
        have hC := fun (W : World) => ref_scale x ((q : Int) + 1) x0 x1 (by omega) (by omega) W
        simp only [hdd] at hC
        have HC := hide hC
        have hsh := HO.out.ints
        rw [ord_length] at hsh
        obtain ⟨A1, c1, rfl, hc1, hrd1⟩ := hsh
        have hS := hide (ref_swap A1 n c1 wr.heap.size q d (ord ws 0 n j) wr hrd1 (Nat.le_refl _) (ord_length _ _ _ _) hn (by omega) (by omega))
        clear hC hdd n0 n1 hg hj hrd1
        go_wp2_with (first
          | (go_at_call 41; refine (HC.out _).mono ?_; rintro e w2 ⟨rfl, rfl⟩)
          | (go_at_call 40; refine (hS.out).mono ?_; rintro e w2 ⟨⟨v, rfl, hown2⟩, hb2⟩))
        go_roundw
        case rel => exact ⟨j + 1, q - 1, by omega, congrArg _ (by omega), by go_num, by omega, by rw [hpl.out]; exact hown2.small hz, hbel.trans (hb2.mono hz)⟩
        case measure => simp [intOf]; omega
    · obtain rfl : q = 0 := by omega
      have HJ := hide (show n - 1 = j by omega)
      go_wp2_with fail
      go_ret3
      exact ⟨hbel, .inr ⟨by omega, _, by rw [HJ.out]; rfl, by rw [HJ.out]; exact HO.out⟩⟩
set_option maxRecDepth 100000 in
set_option maxHeartbeats 2000000 in
theorem ref_order_zero (A : Option Addr) (m c : Nat) (ws : List Int) (w : World) :
    Calls Try.prog 15 #[.int .i64 0, .slice A m c] w (RefOrder.Post 0 m ws w) := by
  have hC := fun (W : World) => ref_row 0 (by omega) W
  simp only [show ((0 : Nat) : Int) = 0 from rfl] at hC
  have HC := hide hC
  clear hC
  go_enter Try.func15, Try.ntmps15
  go_wp2_with (go_at_call 39; refine (HC.out _).mono ?_; rintro e w1 ⟨⟨v, rfl, hown⟩, hb1⟩)
  have HO := hide hown
  clear hown
  refine wp_loop_rounds 1 ?_; rw [rounds_succ]
  go_wp2_with fail
  go_ret3
  exact ⟨hb1, .inr ⟨by omega, _, rfl, HO.out⟩⟩
theorem ref_order (A : Option Addr) (n m c B : Nat) (ws : List Int) (w : World) (hr : Rd w B 1 A m (ws.map (Value.int .u32))) (hB : B ≤ w.heap.size) (hl : ws.length = m) (hw : ∀ x ∈ ws, (Lit.int .u32 x).wf = true) (hm : m ≤ 1000) (hn : n ≤ 300) :
    Calls Try.prog 15 #[.int .i64 n, .slice A m c] w (RefOrder.Post n m ws w) := by
  rcases Nat.eq_zero_or_pos n with h | h
  · subst h; exact ref_order_zero A m c ws w
  · exact ref_order_pos A n m c B ws w hr hB hl hw hm hn h
end Go.Proofs.Ytalecppofemcnaa
