/-
  The walks of words.Many.
-/
import Derived.Test.YtikdkljknbgphaaWordsLaw
import Derived.Test.YtikdkljknbgphaaOwn
namespace Go.Proofs.Ytikdkljknbgphaa
open Go.RowKit HB PickP

theorem many_neg (A : Option Addr) (n c : Nat) (at_ m : Int) (hm : m < 0) (w : World) :
    Calls Try.prog 51 #[Words.st A n c at_, .int .i64 m] w fun e w' => e = .returned (.tuple #[.slice none 0 0, Words.st A n c at_, .int .i64 22]) ∧ Below w.heap.size w w' := by
  go_enter Try.func51, Try.ntmps51
  go_wp2_with fail
  go_region
  all_goals
    go_wp2_with fail
    go_returns
    exact ⟨rfl, by go_grown⟩

set_option maxHeartbeats 1000000 in
theorem many_dry (A : Option Addr) (n c : Nat) (at_ m : Int) (hn : n ≤ 1000000000) (hm : 0 ≤ m) (hd : Words.left at_ n < m) (w : World) :
    Calls Try.prog 51 #[Words.st A n c at_, .int .i64 m] w fun e w' => e = .returned (.tuple #[.slice none 0 0, Words.st A n c at_, .int .i64 50]) ∧ Below w.heap.size w w' := by
  go_enter Try.func51, Try.ntmps51
  go_wp2_with (go_at_call 52; refine (words_left _ _ _ _ hn _).mono ?_; rintro e w' ⟨rfl, rfl⟩)
  go_region
  all_goals
    go_wp2_with fail
    go_returns
    exact ⟨rfl, by go_grown⟩

set_option maxHeartbeats 1000000 in
theorem many_zero (A : Option Addr) (n c : Nat) (at_ : Int) (hn : n ≤ 1000000000) (w : World) :
    Calls Try.prog 51 #[Words.st A n c at_, .int .i64 0] w fun e w' => e = .returned (.tuple #[.slice none 0 0, Words.st A n c at_, .int .i64 0]) ∧ Below w.heap.size w w' := by
  have hl : 0 ≤ Words.left at_ n := by unfold Words.left; split <;> omega
  go_enter Try.func51, Try.ntmps51
  go_wp2_with (go_at_call 52; refine (words_left _ _ _ _ hn _).mono ?_; rintro e w' ⟨rfl, rfl⟩)
  go_region
  all_goals
    go_wp2_with fail
    go_returns
    exact ⟨rfl, by go_grown⟩

theorem Many.info : (Try.prog.info? 33).map (fun i => (i.zero, i.size, i.bytes)) = some (some (.int .u32 0), 1, 4) := by kernel_rfl
theorem Many.cut {w : World} {B n k m : Nat} {A : Option Addr} {ws : List Int} (h : Rd w B 1 A n (ws.map (Value.int .u32))) (hk : k + m ≤ n) (hm : 0 < m) :
    ∃ b off, A = some ⟨b, off, none⟩ ∧ b < B ∧ Rd w B 1 (some ⟨b, off + k, none⟩) m (((ws.drop k).take m).map (Value.int .u32)) := by
  obtain ⟨b, off, rfl, hb, hcell⟩ := h.at_ (by omega)
  refine ⟨b, off, rfl, hb, ?_, fun _ => ⟨b, off + k, rfl, hb, fun j u hu => ?_⟩⟩
  · have := h.1; simp at this ⊢; omega
  · rw [Nat.add_assoc]
    refine hcell _ u ?_
    have hj : j < m := by have := (List.getElem?_eq_some_iff.1 hu).1; simp at this; omega
    rw [List.getElem?_map, List.getElem?_take, if_pos hj, List.getElem?_drop] at hu
    rw [List.getElem?_map]; exact hu

def Many.Post (b off n c k m : Nat) (ws : List Int) (w : World) (e : Ending) (w' : World) : Prop :=
  ∃ v, e = .returned (.tuple #[v, Words.st (some ⟨b, off, none⟩) n c ((k : Int) + m), .int .i64 0]) ∧ Own w' w.heap.size 33 1 (num .u32) v ((ws.drop k).take m) ∧ Below w.heap.size w w'
set_option maxRecDepth 100000 in
set_option maxHeartbeats 2000000 in
theorem many_yes (b off n c k m : Nat) (ws : List Int) (hn : n ≤ 1000) (hl : ws.length = n) (hc : n ≤ c) (hkm : k + m ≤ n) (hm : 0 < m) (w : World) (hr : Rd w w.heap.size 1 (some ⟨b, off, none⟩) n (ws.map (Value.int .u32))) :
    Calls Try.prog 51 #[Words.st (some ⟨b, off, none⟩) n c k, .int .i64 m] w (Many.Post b off n c k m ws w) := by
  have L : Words.left k n = n - k := by unfold Words.left; rw [if_neg (by omega)]
  have HL := hide L
  clear L
  obtain ⟨b', off', hA, hb, hcut⟩ := Many.cut hr hkm hm
  simp only [Option.some.injEq, Addr.mk.injEq, and_true] at hA
  obtain ⟨rfl, rfl⟩ := hA
  have hlen : ((ws.drop k).take m).length = m := by simp; omega
  generalize hys : (ws.drop k).take m = ys at *
  have Hys := hide hys
  have Hlen := hide hlen
  have m0 : ((m : Int) == 0) = false := by rw [beq_eq_false_iff_ne]; omega
  have i0 : (0 : Int) ≤ (k : Int) := by omega
  have i1 : (k : Int) ≤ (k : Int) + (m : Int) := by omega
  have i2 : (k : Int) + (m : Int) ≤ (c : Int) := by omega
  have i3 : ((k : Int) + (m : Int)).toNat = k + m := by omega
  have HR := hide hcut
  clear hys hlen hr hcut
  go_enter Try.func51, Try.ntmps51
  go_wp2_with (first
    | (go_at_call 52; refine (words_left _ _ _ _ (by omega) _).mono ?_; rintro e w' ⟨rfl, rfl⟩; simp only [HL.out])
    | (at_builtin
       refine pushAll rfl _ _ 32 rfl Try.underlying32 Many.info rfl (by omega) (by omega) rfl (Own.nil _ (w.heap.size + 3) _ _ _) ys w.heap.size (some ⟨b, off + k, none⟩) m (c - k) rfl Hlen.out
         (by rw [map_flat]; exact ((HR.out.alloc (Nat.le_refl _) _).alloc (by go_size) _).alloc (by go_size) _) (by rw [map_flat]; intro u hu; obtain ⟨z, _, rfl⟩ := List.mem_map.1 hu; rfl) (by simp) (by omega) (by go_size) ?_
       intro v w1 hown hb1
       have k0 := (hb1.cell (p := ⟨w.heap.size, 0, none⟩) (by go_size)).trans (by simp [go_sem] : _ = some (.slice (some ⟨b, off, none⟩) n c))
       have k1 := (hb1.cell (p := ⟨w.heap.size, 1, none⟩) (by go_size)).trans (by simp [go_sem] : _ = some (.int .i64 k))
       have k2 := (hb1.cell (p := ⟨w.heap.size + 1, 0, none⟩) (by go_size)).trans (by simp [go_sem] : _ = some (.slice none 0 0))
       have k3 := (hb1.cell (p := ⟨w.heap.size + 1, 1, none⟩) (by go_size)).trans (by simp [go_sem] : _ = some (.int .i64 0))
       have f1 := (hb1.frozen (p := ⟨w.heap.size, 1, none⟩) (by go_size)).trans (by simp [go_sem] : _ = false)
       have f2 := (hb1.frozen (p := ⟨w.heap.size + 1, 0, none⟩) (by go_size)).trans (by simp [go_sem] : _ = false)
       have f3 := (hb1.frozen (p := ⟨w.heap.size + 1, 1, none⟩) (by go_size)).trans (by simp [go_sem] : _ = false)
       have hB := (show Below w.heap.size w _ from by go_grown).trans (hb1.mono (by omega))
       have hz := hb1.size
       clear hb1))
  refine letter (w := w) (fun W => (W.cell? ⟨w.heap.size, 0, none⟩ = some (.slice (some ⟨b, off, none⟩) n c) ∧ W.cell? ⟨w.heap.size, 1, none⟩ = some (.int .i64 ((k : Int) + m)) ∧ W.cell? ⟨w.heap.size + 1, 0, none⟩ = some (.slice none 0 0) ∧ W.cell? ⟨w.heap.size + 1, 1, none⟩ = some (.int .i64 0) ∧
    W.frozen? ⟨w.heap.size + 1, 0, none⟩ = false ∧ W.frozen? ⟨w.heap.size + 1, 1, none⟩ = false) ∧ Own W (w.heap.size + 3) 33 1 (num .u32) v ys) ⟨by simp [go_sem, *, set_same k1], hown.setBelow (by go_size) _⟩ (hB.setCell (by go_size) _) (by simp only [World.size_setCell]; simp at hz; omega) ?_
  clear k0 k1 k2 k3 f1 f2 f3 hB hz hown
  rintro W ⟨⟨k0, k1, k2, k3, f2, f3⟩, hown⟩ hB hz
  have s2 := set_same k2
  have s3 := set_same2 ⟨w.heap.size + 1, 0, none⟩ (by simp) k3
  have HO := hide hown
  clear hown
  go_region
  all_goals
    go_wp2_with fail
    refine bodyPost_ret (v := .tuple #[v, Words.st (some ⟨b, off, none⟩) n c ((k : Int) + m), .int .i64 0]) (by simp [results, Try.results51, go_sem, s2, s3]) rfl ⟨v, rfl, ?_, by go_grown⟩
    rw [Hys.out]
    exact Own.small ((HO.out.setBelow (by go_size) _).setBelow (by go_size) _) (by omega)
end Go.Proofs.Ytikdkljknbgphaa
