/-
  The walk of lcg.Make; the law LcgMakes.
-/
import Derived.Test.YtikdkljknbgphaaOwn
import Derived.Test.YtikdkljknbgphaaWord
import Derived.Test.YtikdkljknbgphaaEqU32
namespace Go.Proofs.Ytikdkljknbgphaa
open Go.RowKit LcgP HB WordP

theorem Makes.info : (Try.prog.info? 33).map (fun i => (i.zero, i.size, i.bytes)) = some (some (.int .u32 0), 1, 4) := by kernel_rfl
/-- The words of the states behind one. -/
def Makes.words (s : Int) (n : Nat) : List Int := (List.range n).map fun (i : Nat) => Word.of (J ((i : Int) + 1) s)
theorem Makes.words_succ (s : Int) (n : Nat) : Makes.words s (n + 1) = Makes.words s n ++ [Word.of (J ((n : Int) + 1) s)] := by simp [Makes.words, List.range_succ]
theorem Makes.words_length (s : Int) (n : Nat) : (Makes.words s n).length = n := by simp [Makes.words]

def Makes.Rel (s n : Int) (w : World) (a o i : Value) (wr : World) : Prop :=
  ∃ k : Nat, ((k : Int) ≤ min n 1048576 ∨ k = 0) ∧ i = .int .i64 k ∧ a = .int .u64 (J k s) ∧ Own wr w.heap.size 33 1 (num .u32) o (Makes.words s k) ∧ Below w.heap.size w wr

set_option maxRecDepth 100000 in
set_option maxHeartbeats 1000000 in
theorem lcg_make (s n : Int) (hs : 0 ≤ s) (hs1 : s < M) (w : World) :
    Calls Try.prog 26 #[.int .u64 s, .int .i64 n] w fun e w' => ∃ v, e = .returned v ∧ Own w' w.heap.size 33 1 (num .u32) v (Makes.words s (min n 1048576).toNat) ∧ Below w.heap.size w w' := by
  go_enter Try.func26, Try.ntmps26
  go_wp2_with fail
  go_loopw [0, 5, 8] (fun a o i wr => Makes.Rel s n w a o i wr) (fun _ _ i _ => (1048576 - intOf i).toNat)
  case atStart => exact ⟨0, .inr rfl, rfl, rfl, Own.nil _ _ _ _ _, Below.refl _ _⟩
  case round =>
    obtain ⟨k, hk, rfl, rfl, hown, hbel⟩ := hrel
    have hk1 : (k : Int) ≤ 1048576 := by omega
    have hJ := J_range ((k : Int) + 1) s hs hs1
    by_cases hlt : (k : Int) < min n 1048576
    · have hS := hide (J_succ k s (by omega))
      have hlen := Makes.words_length s k
      have hL : (Makes.words s k).length ≤ 1000000000 := by omega
      clear hlen
      have hz := hbel.size
      go_wp2_with (go_at_call 15; refine (lcg_step _ _).mono ?_; rintro e w' ⟨rfl, rfl⟩; simp only [hS.out])
      refine (lcg_word _ hJ.1 hJ.2 _).mono ?_; rintro e w' ⟨rfl, rfl⟩
      go_wp2_with (at_builtin; refine push rfl _ _ 32 rfl Try.underlying32 Makes.info rfl (by omega) (by omega) rfl (hown.alloc _) (Word.of (J ((k : Int) + 1) s)) ⟨_, 0, none⟩ 1 rfl rfl (cell_one_new _ _ _) (by simp [Value.oneCell']) hL (Nat.le_trans hz (by simp)) ?_; intro v' w1 hown1 hb1)
      go_roundw
      case rel => exact ⟨k + 1, .inl (by omega), by go_num, by go_num, by rw [Makes.words_succ]; exact hown1, (hbel.alloc hz _).trans hb1⟩
      case measure => simp [intOf]; omega
    · have hk' : k = (min n 1048576).toNat := by omega
      have Hk := hide hk'
      clear hk'
      go_wp2_with fail
      go_ret
      exact ⟨_, rfl, by rw [← Hk.out]; exact hown, hbel⟩
end Go.Proofs.Ytikdkljknbgphaa
