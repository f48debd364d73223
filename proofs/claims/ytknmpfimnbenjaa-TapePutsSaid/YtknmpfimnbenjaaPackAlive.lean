/-
  The walks of package pack's Read and of the law's own example.
-/
import Derived.Test.YtknmpfimnbenjaaReader2
namespace Go.Proofs.Ytknmpfimnbenjaa
open Go.RowKit HB PackP
set_option linter.unusedVariables false
set_option linter.unusedSimpArgs false
namespace PackP
def rbad (l : List Int) : Bool := nb l false || decide (0 < (nr l).length)
end PackP
set_option maxRecDepth 100000 in
set_option maxHeartbeats 2000000 in
theorem pack_read (A : Option Addr) (n c B : Nat) (l : List Int) (w : World) (hc : n ≤ c) (hl : l.length = n) (hr : Rd w B 1 A n (l.map (Value.int .u8))) (hB : B ≤ w.heap.size) (hb : ∀ x ∈ l, 0 ≤ x ∧ x < 256) (hn : n ≤ 1000000) :
    Calls Try.prog 27 #[.slice A n c] w fun e w' => e = .returned (.tuple #[.int .u64 (if rbad l then 0 else nv l : Nat), .int .i64 (if rbad l then 20 else 0)]) ∧ Below w.heap.size w w' := by
  have HM := hide (reader_make A n c B l w hc hl hr hB)
  have HB := hide hb
  have hln : (nr l).length ≤ l.length := nr_len l
  have Hl := hide hl
  have hN := fun (w1 : World) (h1 : Rr w1 w.heap.size B l false) => reader_num w.heap.size B l false w1 h1 hb (by omega)
  unfold rbad
  generalize nv l = v at *
  generalize nr l = r at *
  generalize nb l false = b2 at *
  have HN := hide hN
  clear hN hr hb
  cases b2 with
  | true =>
    simp only [Bool.true_or, if_true]
    go_enter Try.func27, Try.ntmps27
    go_wp2_with fail
    refine (HM.out).mono ?_; rintro e w1 ⟨rfl, hr1, hb1⟩
    go_wp2_with fail
    refine (HN.out w1 hr1).mono ?_; rintro e w2 ⟨rfl, hr2, hg2⟩
    have c1 := hr2.c1
    have hbel := hb1.grown hg2 (Nat.le_of_lt hr1.hp) (fun k hk => by injection hk with hk; omega)
    clear hr1 hb1 hg2
    go_wp2_with fail
    go_ret2
    exact ⟨rfl, hbel⟩
  | false =>
    simp only [Bool.false_or]
    by_cases h0 : 0 < r.length
    · rw [decide_eq_true h0, if_pos rfl, if_pos rfl]
      go_enter Try.func27, Try.ntmps27
      go_wp2_with fail
      refine (HM.out).mono ?_; rintro e w1 ⟨rfl, hr1, hb1⟩
      go_wp2_with fail
      refine (HN.out w1 hr1).mono ?_; rintro e w2 ⟨rfl, hr2, hg2⟩
      have c1 := hr2.c1
      have hbel := hb1.grown hg2 (Nat.le_of_lt hr1.hp) (fun k hk => by injection hk with hk; omega)
      clear hr1 hb1 hg2
      go_wp2_with (go_at_call 25; refine (reader_left _ _ _ _ _ hr2).mono ?_; rintro e w3 ⟨rfl, rfl⟩)
      go_ret2
      exact ⟨rfl, hbel⟩
    · rw [decide_eq_false h0, if_neg (by decide), if_neg (by decide)]
      go_enter Try.func27, Try.ntmps27
      go_wp2_with fail
      refine (HM.out).mono ?_; rintro e w1 ⟨rfl, hr1, hb1⟩
      go_wp2_with fail
      refine (HN.out w1 hr1).mono ?_; rintro e w2 ⟨rfl, hr2, hg2⟩
      have c1 := hr2.c1
      have hbel := hb1.grown hg2 (Nat.le_of_lt hr1.hp) (fun k hk => by injection hk with hk; omega)
      clear hr1 hb1 hg2
      go_wp2_with (go_at_call 25; refine (reader_left _ _ _ _ _ hr2).mono ?_; rintro e w3 ⟨rfl, rfl⟩)
      go_ret2
      exact ⟨rfl, hbel⟩
set_option maxRecDepth 100000 in
set_option maxHeartbeats 2000000 in
theorem pack_alive (w : World) : Calls Try.prog 21 #[] w fun e w' => e = .returned (.bool true) ∧ Below w.heap.size w w' := by
  have e1 : rbad [172, 2] = false := by decide
  have e2 : nv [172, 2] = 300 := by decide
  have e3 : put 300 = [172, 2] := by rw [put_big (by decide), put_small (by decide)]; rfl
  have hC := pack_read (some ⟨w.heap.size, 0, none⟩) 2 2 (w.heap.size + 1) [172, 2] (w.alloc (.cells #[.int .u8 172, .int .u8 2] 5)) (Nat.le_refl _) rfl (Rd.new w 5 (xs := [.int .u8 172, .int .u8 2]) rfl) (by simp) (by simp) (by omega)
  rw [e1, e2] at hC
  have hP := fun (W : World) => pack_put (.slice none 0 0) [] 300 W.heap.size W (Own.nil _ _ _ _ _) (Nat.le_refl _) (by simp) (by omega)
  simp only [e3, List.nil_append] at hP
  have HC := hide hC
  have HP := hide hP
  clear e1 e2 e3 hC hP
  go_enter Try.func21, Try.ntmps21
  go_wp2_with fail
  refine (HC.out).mono ?_; rintro e w1 ⟨rfl, hb1⟩
  have hbx := then_ (show Below w.heap.size w _ from by go_grown) hb1 (Nat.le_refl _)
  clear hb1
  go_wp2_with fail
  refine (HP.out _).mono ?_; rintro e w2 ⟨⟨v, rfl, hown⟩, hb2⟩
  obtain ⟨A, c, rfl, hc, hrd⟩ : ∃ (A : Option Addr) (c : Nat), v = .slice A 2 c ∧ 2 ≤ c ∧ Rd w2 w2.heap.size 1 A 2 ([(172 : Int), 2].map (Value.int .u8)) := hown.ints
  have HRD := hide hrd
  have hb := then_ hbx hb2 (Nat.le_refl _)
  have hz := hb2.size
  clear hown hrd hb2 hbx
  have HN := hide (show Rd (w2.alloc (.cells #[.int .u8 172, .int .u8 2] 5)) (w2.heap.size + 1) 1 (some ⟨w2.heap.size, 0, none⟩) 2 ([(172 : Int), 2].map (Value.int .u8)) from Rd.new (sz := 1) (n := 2) w2 5 (xs := [.int .u8 172, .int .u8 2]) rfl)
  go_wp2_with fail
  ((with_reducible refine (eqB _ _ _ _ _ _ w2.heap.size _ [172, 2] [172, 2] _ (HRD.out.alloc (Nat.le_refl _) _) HN.out (by simp) (by omega)).mono ?_); rintro e w3 ⟨rfl, m, rfl⟩)
  simp only [decide_true]
  go_wp2_with fail
  go_ret
  exact ⟨rfl, below_drewN (hb.alloc hb.size _) _⟩
end Go.Proofs.Ytknmpfimnbenjaa
