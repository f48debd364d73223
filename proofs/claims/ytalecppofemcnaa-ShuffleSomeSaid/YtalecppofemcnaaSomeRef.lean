/-
  The walk of the document's own Some.
-/
import Derived.Test.YtalecppofemcnaaSomePlain
namespace Go.Proofs.Ytalecppofemcnaa
open Go.RowKit HB PickP ShufP Go.Maps
set_option linter.unusedVariables false
set_option linter.unusedSimpArgs false
def RefSome.Post (k n m : Nat) (ws : List Int) (w : World) (e : Ending) (w' : World) : Prop :=
  Below w.heap.size w w' ∧ ((m < k ∧ e = .returned (.tuple #[.slice none 0 0, .bool false])) ∨
    (k ≤ m ∧ ∃ A c, e = .returned (.tuple #[.slice A k c, .bool true]) ∧ Rd w' w'.heap.size 1 A k (((sme ws 0 n k).take k).map (Value.int .i64)) ∧ k ≤ c))
set_option maxRecDepth 100000 in
set_option maxHeartbeats 4000000 in
theorem ref_some (A : Option Addr) (k n m c B : Nat) (ws : List Int) (w : World) (hr : Rd w B 1 A m (ws.map (Value.int .u32))) (hB : B ≤ w.heap.size) (hl : ws.length = m) (hw : ∀ x ∈ ws, (Lit.int .u32 x).wf = true) (hm : m ≤ 1000) (hn : n ≤ 300) (hk : k ≤ n) :
    Calls Try.prog 22 #[.int .i64 k, .int .i64 n, .slice A m c] w (RefSome.Post k n m ws w) := by
  have Hl := hide hl
  have HR := hide hr
  have Hw := hide hw
  clear hl hr hw
  go_enter Try.func22, Try.ntmps22
  go_wp2_with (go_at_call 39; refine (ref_row n hn _).mono ?_; rintro e w1 ⟨⟨v, rfl, hown⟩, hb1⟩)
  have HO0 := hide hown
  clear hown
  go_loopw [8, 9] (fun o i wr => ∃ j : Nat, j ≤ k ∧ i = .int .i64 j ∧ j ≤ m ∧ Own wr w.heap.size 3 1 (num .i64) o (sme ws 0 n j) ∧ Below w.heap.size w wr) (fun _ i _ => k - (intOf i).toNat)
  case atStart => exact ⟨0, Nat.zero_le _, rfl, Nat.zero_le _, HO0.out, hb1⟩
  case round =>
    clear HO0 hb1
    obtain ⟨j, hj, rfl, hjm, hown, hbel⟩ := hrel
    have HO := hide hown
    have hz := hbel.size
    have hsh := hown.ints
    rw [sme_length] at hsh
    obtain ⟨A1, c1, rfl, hc1, hrd1⟩ := hsh
    have HRD := hide hrd1
    clear hown hrd1
    by_cases hlt : j < k
    · by_cases hjm2 : j = m
      · subst hjm2
        have hself : ((j : Int) == (j : Int)) = true := by simp
        go_wp2_with fail
        refine bodyPost_ret (v := .tuple #[.slice none 0 0, .bool false]) (by simp [results, Try.results22, go_sem]) rfl ⟨hbel, .inl ⟨by omega, rfl⟩⟩
      · have hjl : j < m := by omega
        have hself : ((j : Int) == (m : Int)) = false := by rw [beq_eq_false_iff_ne]; omega
        obtain ⟨b, off, x, rfl, hb, hg, c0⟩ := (HR.out.below (hbel.mono hB)).int_at Hl.out hjl
        obtain ⟨x0, x1⟩ := bounds_u32 (Hw.out x (List.mem_of_getElem? hg))
        obtain ⟨n0, n1⟩ := num_range x0 x1 (show 0 < (n : Int) - (j : Int) by omega)
        obtain ⟨d, hdd⟩ := Int.eq_ofNat_of_zero_le n0
        have hdn : j + d < n := by omega
        have hpl := hide (show sme ws 0 n (j + 1) = sw (sme ws 0 n j) j (j + d) by
          simp only [sme, pl, Nat.zero_add]
          rw [List.getD_eq_getElem?_getD, hg, Option.getD_some, show ((n - j : Nat) : Int) = (n : Int) - (j : Int) by omega, hdd]
          rfl)
        have hC := fun (W : World) => ref_scale x ((n : Int) - (j : Int)) x0 x1 (by omega) (by omega) W
        simp only [hdd] at hC
        have HC := hide hC
        have p1 : ((j + d : Nat) : Int) = (j : Int) + (d : Int) := by omega
        have hS := ref_swap A1 n c1 wr.heap.size j (j + d) (sme ws 0 n j) wr HRD.out (Nat.le_refl _) (sme_length _ _ _ _) hn (by omega) (by omega)
        rw [p1] at hS
        have HS := hide hS
        clear hC hdd n0 n1 hg p1 hS
        go_wp2_with (first
          | (go_at_call 41; refine (HC.out _).mono ?_; rintro e w2 ⟨rfl, rfl⟩)
          | (go_at_call 40; refine (HS.out).mono ?_; rintro e w2 ⟨⟨v, rfl, hown2⟩, hb2⟩))
        go_roundw
        case rel => exact ⟨j + 1, by omega, by go_num, by omega, by rw [hpl.out]; exact hown2.small hz, hbel.trans (hb2.mono hz)⟩
        case measure => simp [intOf]; omega
    · obtain rfl : j = k := by omega
      have i0 : (0 : Int) ≤ (j : Int) := by omega
      have i1 : (j : Int) ≤ (c1 : Int) := by omega
      have HF := hide (show Rd wr wr.heap.size 1 A1 j (((sme ws 0 n j).take j).map (Value.int .i64)) from by
        have := HRD.out.front hk
        rwa [Nat.mul_one, ← List.map_take] at this)
      go_wp2_with fail
      go_ret2
      exact ⟨hbel, .inr ⟨hjm, _, _, rfl, HF.out, by omega⟩⟩
end Go.Proofs.Ytalecppofemcnaa
