/-
  The walks of pareto.Beats, of pareto.Front, and of the law's own beats and great.
-/
import Derived.Test.YtkgkilogjodccaaProg
import Derived.Test.YtkgkilogjodccaaOwn
import Derived.Test.YtkgkilogjodccaaEqInt
import Derived.Test.YtkgkilogjodccaaParetoPlain
import Derived.IntWalk
import Derived.Deep.QuietTactic
import Derived.BigQuiet
namespace Go.Proofs.Ytkgkilogjodccaa
open Go.RowKit HB ParetoP
set_option linter.unusedVariables false
set_option linter.unusedSimpArgs false

structure RowR where
  A : Option Addr
  n : Nat
  c : Nat
  l : List Int
instance : Inhabited RowR := ⟨⟨none, 0, 0, []⟩⟩
abbrev RowR.v (r : RowR) : Value := .slice r.A r.n r.c
/-- A slice of slices that reads as rows. -/
def Rws (w : World) (B : Nat) (A : Option Addr) (n : Nat) (R : List RowR) : Prop :=
  Rd w B 1 A n (R.map RowR.v) ∧ R.length = n ∧ ∀ r ∈ R, Rd w B 1 r.A r.n (r.l.map (Value.int .i64)) ∧ r.l.length = r.n
abbrev lsOf (R : List RowR) : List (List Int) := R.map RowR.l
theorem Rws.below {w w' : World} {B n : Nat} {A : Option Addr} {R : List RowR} (h : Rws w B A n R) (hb : Below B w w') : Rws w' B A n R :=
  ⟨h.1.below hb, h.2.1, fun r hr => ⟨(h.2.2 r hr).1.below hb, (h.2.2 r hr).2⟩⟩
theorem Rws.drewN {w : World} {B n : Nat} {A : Option Addr} {R : List RowR} (h : Rws w B A n R) (k : Nat) : Rws (w.drewN k) B A n R :=
  ⟨h.1.drewN k, h.2.1, fun r hr => ⟨(h.2.2 r hr).1.drewN k, (h.2.2 r hr).2⟩⟩
theorem Rws.at_ {w : World} {B n : Nat} {A : Option Addr} {R : List RowR} (h : Rws w B A n R) {i : Nat} (hi : i < n) :
    ∃ b off A' n' c' l, A = some ⟨b, off, none⟩ ∧ b < B ∧ (lsOf R)[i]? = some l ∧ w.cell? ⟨b, off + i, none⟩ = some (.slice A' n' c') ∧ Rd w B 1 A' n' (l.map (Value.int .i64)) ∧ l.length = n' := by
  obtain ⟨b, off, hA, hb, hc⟩ := h.1.at_ (by omega)
  have hg : R[i]? = some (R[i]'(by rw [h.2.1]; exact hi)) := List.getElem?_eq_getElem _
  generalize R[i]'(by rw [h.2.1]; exact hi) = r at hg
  have := h.2.2 r (List.mem_of_getElem? hg)
  exact ⟨b, off, r.A, r.n, r.c, r.l, hA, hb, by simp [lsOf, hg], hc i r.v (by rw [List.getElem?_map, hg]; rfl), this.1, this.2⟩
theorem Pareto.info : (Try.prog.info? 3).map (fun i => (i.zero, i.size, i.bytes)) = some (some (.int .i64 0), 1, 8) := by kernel_rfl

set_option maxRecDepth 100000 in
set_option maxHeartbeats 2000000 in
theorem pareto_beats (A A' : Option Addr) (n n' c c' B : Nat) (l l' : List Int) (w : World) (hr : Rd w B 1 A n (l.map (Value.int .i64))) (hr' : Rd w B 1 A' n' (l'.map (Value.int .i64))) (hl : l.length = n) (hl' : l'.length = n') (hn : n ≤ 100) :
    Calls Try.prog 54 #[.slice A n c, .slice A' n' c'] w fun e w' => e = .returned (.bool (bt l l')) ∧ w = w' := by
  have Hl := hide hl
  have Hl' := hide hl'
  clear hl hl'
  by_cases hne : n = n'
  · subst hne
    have hneq : ((n : Int) != (n : Int)) = false := by simp
    go_enter Try.func54, Try.ntmps54
    go_wp2_with fail
    go_loop [5, 15] (fun s i => ∃ k : Nat, k ≤ n ∧ i = .int .i64 k ∧ s = .bool (((l.zip l').take k).any lt) ∧ ((l.zip l').take k).any gt = false) (fun _ i => n - (intOf i).toNat)
    case atStart => exact ⟨0, Nat.zero_le _, rfl, by simp, by simp⟩
    case round =>
      obtain ⟨k, hk, rfl, rfl, hg⟩ := hrel
      have HG := hide hg
      clear hg
      by_cases hlt : k < n
      · obtain ⟨b, off, x, rfl, hb, hx, c0⟩ := hr.int_at Hl.out hlt
        obtain ⟨b', off', y, rfl, hb', hy, c1⟩ := hr'.int_at Hl'.out hlt
        have i0 : (0 : Int) ≤ (k : Int) := by omega
        have i1 : (k : Int) < (n : Int) := by omega
        by_cases hxy : y < x
        · have ht := hide (bt_gt hx hy hxy)
          clear hx hy hr hr'
          generalize ((l.zip l').take k).any lt = s
          go_wp2_with fail
          go_ret
          exact ⟨ret_bool ht.out.symm, rfl⟩
        · have e1 := any_next lt (zip_get hx hy)
          have e2 := any_next gt (zip_get hx hy)
          have hgf : gt (x, y) = false := by simp [gt]; omega
          rw [HG.out, hgf] at e2
          have E1 := hide e1
          have E2 := hide e2
          clear hx hy hr hr' e1 e2 hgf HG
          generalize hs : ((l.zip l').take k).any lt = s at *
          have S := hide hs
          clear hs
          cases s with
          | true =>
            go_wp2_with fail
            go_round
            case rel => exact ⟨k + 1, by omega, by go_num, by rw [E1.out]; rfl, E2.out⟩
            case measure => simp [intOf]; omega
          | false =>
            go_wp2_with fail
            go_round
            case rel => exact ⟨k + 1, by omega, by go_num, by rw [E1.out]; simp [lt], E2.out⟩
            case measure => simp [intOf]; omega
      · obtain rfl : k = n := by omega
        have hz := zip_all l l' k Hl.out Hl'.out
        have hg := HG.out
        rw [hz] at hg
        have ht := hide (bt_end (by rw [Hl.out, Hl'.out]) hg)
        simp only [hz]
        clear hz hg HG hr hr'
        generalize hs : (l.zip l').any lt = s at *
        have S := hide hs
        clear hs
        go_wp2_with fail
        go_ret
        exact ⟨ret_bool (by rw [ht.out]), rfl⟩
  · have ht := hide (bt_len (l := l) (m := l') (by rw [Hl.out, Hl'.out]; exact hne))
    have hb1 : ((n : Int) != (n' : Int)) = true := by rw [bne_iff_ne]; omega
    clear hr hr'
    go_enter Try.func54, Try.ntmps54
    go_wp2_with fail
    go_ret
    exact ⟨ret_bool ht.out.symm, rfl⟩

set_option maxRecDepth 100000 in
set_option maxHeartbeats 2000000 in
theorem law_beats (A A' : Option Addr) (n n' c c' B : Nat) (l l' : List Int) (w : World) (hr : Rd w B 1 A n (l.map (Value.int .i64))) (hr' : Rd w B 1 A' n' (l'.map (Value.int .i64))) (hl : l.length = n) (hl' : l'.length = n') (hn : n ≤ 100) :
    Calls Try.prog 53 #[.slice A n c, .slice A' n' c'] w fun e w' => e = .returned (.bool (bt l l')) ∧ ∃ m, w' = w.drewN m := by
  have Hl := hide hl
  have Hl' := hide hl'
  clear hl hl'
  by_cases hne : n = n'
  · subst hne
    have hneq : ((n : Int) != (n : Int)) = false := by simp
    go_enter Try.func53, Try.ntmps53
    go_wp2_with fail
    go_loopw [5, 6, 7] (fun s t i wr => ∃ k p q m : Nat, k ≤ n ∧ p ≤ k ∧ q ≤ k ∧ i = .int .i64 k ∧ s = .int .i64 p ∧ t = .int .i64 q ∧ ((l.zip l').take k).any lt = decide (0 < p) ∧ ((l.zip l').take k).any gt = decide (0 < q) ∧ wr = w.drewN m) (fun _ _ i _ => n - (intOf i).toNat)
    case atStart => exact ⟨0, 0, 0, 0, Nat.zero_le _, Nat.le_refl _, Nat.le_refl _, rfl, rfl, rfl, by simp, by simp, rfl⟩
    case round =>
      obtain ⟨k, p, q, m, hk, hp, hq, rfl, rfl, rfl, hs, hg, rfl⟩ := hrel
      have S := hide hs
      have G := hide hg
      clear hs hg
      by_cases hlt : k < n
      · obtain ⟨b, off, x, rfl, hb, hx, c0⟩ := hr.int_at Hl.out hlt
        obtain ⟨b', off', y, rfl, hb', hy, c1⟩ := hr'.int_at Hl'.out hlt
        have i0 : (0 : Int) ≤ (k : Int) := by omega
        have i1 : (k : Int) < (n : Int) := by omega
        have E1 := hide (any_next lt (zip_get hx hy))
        have E2 := hide (any_next gt (zip_get hx hy))
        clear hx hy hr hr'
        have hc : x < y ∨ y < x ∨ x = y := by omega
        rcases hc with h | h | h
        · have d1 : decide (y < x) = false := by simp; omega
          go_wp2_with fail
          go_quiet (fail)
          go_wp2_with fail
          go_quiet (fail)
          go_wp2_with fail
          go_roundw
          case rel => exact ⟨k + 1, p + 1, q, _, by omega, by omega, by omega, by go_num, by go_num, rfl, by rw [E1.out, S.out]; simp [lt, h], by rw [E2.out, G.out]; simp [gt, d1] <;> omega, rfl⟩
          case measure => simp [intOf]; omega
        · have d1 : decide (x < y) = false := by simp; omega
          go_wp2_with fail
          go_quiet (fail)
          go_wp2_with fail
          go_quiet (fail)
          go_wp2_with fail
          go_roundw
          case rel => exact ⟨k + 1, p, q + 1, _, by omega, by omega, by omega, by go_num, rfl, by go_num, by rw [E1.out, S.out]; simp [lt, d1] <;> omega, by rw [E2.out, G.out]; simp [gt, h], rfl⟩
          case measure => simp [intOf]; omega
        · subst h
          have d1 : decide (x < x) = false := by simp
          go_wp2_with fail
          go_quiet (fail)
          go_wp2_with fail
          go_quiet (fail)
          go_wp2_with fail
          go_roundw
          case rel => exact ⟨k + 1, p, q, _, by omega, by omega, by omega, by go_num, rfl, rfl, by rw [E1.out, S.out]; simp [lt], by rw [E2.out, G.out]; simp [gt], rfl⟩
          case measure => simp [intOf]; omega
      · obtain rfl : k = n := by omega
        have hz := zip_all l l' k Hl.out Hl'.out
        have hs := S.out
        have hg := G.out
        rw [hz] at hg hs
        clear hz hr hr' S G
        have hc : 0 < q ∨ (q = 0 ∧ 0 < p) ∨ (q = 0 ∧ p = 0) := by omega
        rcases hc with h | ⟨rfl, h⟩ | ⟨rfl, rfl⟩
        · have ht := hide (show bt l l' = false by unfold bt; rw [hg]; simp [h])
          have d1 : ((q : Int) == 0) = false := by rw [beq_eq_false_iff_ne]; omega
          have hc : 0 < p ∨ p = 0 := by omega
          clear hs hg
          rcases hc with h' | rfl
          all_goals
            go_wp2_with fail
            go_ret
            exact ⟨ret_bool ht.out.symm, m, rfl⟩
        · have ht := hide (show bt l l' = true by rw [bt_end (by rw [Hl.out, Hl'.out]) (by rw [hg]; rfl), hs]; simp [h])
          clear hs hg
          go_wp2_with fail
          go_ret
          exact ⟨ret_bool ht.out.symm, m, rfl⟩
        · have ht := hide (show bt l l' = false by rw [bt_end (by rw [Hl.out, Hl'.out]) (by rw [hg]; rfl), hs]; simp)
          clear hs hg
          go_wp2_with fail
          go_ret
          exact ⟨ret_bool ht.out.symm, m, rfl⟩
  · have ht := hide (bt_len (l := l) (m := l') (by rw [Hl.out, Hl'.out]; exact hne))
    have hb1 : ((n : Int) != (n' : Int)) = true := by rw [bne_iff_ne]; omega
    clear hr hr'
    go_enter Try.func53, Try.ntmps53
    go_wp2_with fail
    go_ret
    exact ⟨ret_bool ht.out.symm, 0, rfl⟩

set_option maxRecDepth 100000 in
set_option maxHeartbeats 2000000 in
theorem law_great (A : Option Addr) (n c B : Nat) (R : List RowR) (w : World) (hr : Rws w B A n R) :
    Calls Try.prog 52 #[.slice A n c] w fun e w' => (e = .returned (.bool true) ∨ (e = .returned (.bool false) ∧ n ≤ 25 ∧ ∀ l ∈ lsOf R, l.length ≤ 8)) ∧ w = w' := by
  by_cases hbig : 25 < n
  · go_enter Try.func52, Try.ntmps52
    go_wp2_with fail
    go_ret
    exact ⟨.inl rfl, rfl⟩
  · go_enter Try.func52, Try.ntmps52
    go_wp2_with fail
    go_loop [3] (fun i => ∃ k : Nat, k ≤ n ∧ i = .int .i64 k ∧ ∀ j l, j < k → (lsOf R)[j]? = some l → l.length ≤ 8) (fun i => n - (intOf i).toNat)
    case atStart => exact ⟨0, Nat.zero_le _, rfl, by omega⟩
    case round =>
      obtain ⟨k, hk, rfl, hall⟩ := hrel
      have HA := hide hall
      clear hall
      by_cases hlt : k < n
      · obtain ⟨b, off, A', n', c', l, rfl, hb, hg, c0, hrl, hll⟩ := hr.at_ hlt
        have Hg := hide hg
        have Hll := hide hll
        clear hg hr hrl hll
        by_cases h8 : 8 < n'
        · go_wp2_with fail
          go_ret
          exact ⟨.inl rfl, rfl⟩
        · go_wp2_with fail
          go_round
          case rel =>
            refine ⟨k + 1, by omega, by go_num, fun j l' hj hl' => ?_⟩
            rcases Nat.lt_or_ge j k with h | h
            · exact HA.out j l' h hl'
            · obtain rfl : j = k := by omega
              rw [Hg.out] at hl'
              obtain rfl := Option.some.inj hl'
              rw [Hll.out]; omega
          case measure => simp [intOf]; omega
      · have hend : ∀ l ∈ lsOf R, l.length ≤ 8 := fun l hl => by
          obtain ⟨j, hj⟩ := List.getElem?_of_mem hl
          exact HA.out j l (by have := (List.getElem?_eq_some_iff.1 hj).1; simp [lsOf, hr.2.1] at this; omega) hj
        have HE := hide hend
        clear hend hr
        go_wp2_with fail
        go_ret
        exact ⟨.inr ⟨rfl, by omega, by simpa using HE.out⟩, rfl⟩

def Front.Out (R : List RowR) (w : World) (o i : Value) (wr : World) : Prop :=
  ∃ k : Nat, k ≤ R.length ∧ i = .int .i64 k ∧ Own wr w.heap.size 3 1 (num .i64) o (front (lsOf R) k) ∧ Below w.heap.size w wr
def Front.Post (R : List RowR) (w : World) (e : Ending) (w' : World) : Prop :=
  ∃ v, e = .returned v ∧ Own w' w.heap.size 3 1 (num .i64) v (front (lsOf R) R.length) ∧ Below w.heap.size w w'
set_option maxRecDepth 100000 in
set_option maxHeartbeats 2000000 in
theorem pareto_front (A : Option Addr) (n c B : Nat) (R : List RowR) (w : World) (hr : Rws w B A n R) (hB : B ≤ w.heap.size) (hn : n ≤ 25) (h8 : ∀ l ∈ lsOf R, l.length ≤ 8) :
    Calls Try.prog 55 #[.slice A n c] w (Front.Post R w) := by
  have Hn := hide hr.2.1
  have H8 := hide h8
  clear h8
  go_enter Try.func55, Try.ntmps55
  go_wp2_with fail
  go_loopw [3, 11] (fun o i wr => Front.Out R w o i wr) (fun _ i _ => n - (intOf i).toNat)
  case atStart => exact ⟨0, Nat.zero_le _, rfl, Own.nil _ _ _ _ _, Below.refl _ _⟩
  case round =>
    obtain ⟨k, hk, rfl, hown, hbel⟩ := hrel
    rw [Hn.out] at hk
    have hz := hbel.size
    have hL : (front (lsOf R) k).length ≤ 1000000000 := Nat.le_trans (front_length _ _) (by omega)
    have HO := hide hown
    clear hown
    have HR := hide (hr.below (hbel.mono hB))
    clear hr
    by_cases hlt : k < n
    · obtain ⟨b, off, A', n', c', a, rfl, hb, hg, c0, hra, hla⟩ := HR.out.at_ hlt
      have Hg := hide hg
      have Hra := hide hra
      have Hla := hide hla
      clear hg hra hla
      go_wp2_with fail
      go_loop [6, 18] (fun s j => ∃ i : Nat, i ≤ n ∧ j = .int .i64 i ∧ s = .bool (((lsOf R).take i).any fun x => bt x a)) (fun _ j => n - (intOf j).toNat)
      case atStart => exact ⟨0, Nat.zero_le _, rfl, by simp⟩
      case round =>
        obtain ⟨i, hi, rfl, rfl⟩ := hrel
        by_cases hlt2 : i < n
        · obtain ⟨b2, off2, A2, n2, c2, l2, hA, hb2, hg2, c1, hr2, hl2⟩ := HR.out.at_ hlt2
          simp only [Option.some.injEq, Addr.mk.injEq, and_true] at hA
          obtain ⟨rfl, rfl⟩ := hA
          have E := hide (any_next (fun x => bt x a) hg2)
          have Hr2 := hide hr2
          have Hl2 := hide hl2
          have hn2 : n2 ≤ 100 := by have := H8.out l2 (List.mem_of_getElem? hg2); omega
          clear hg2 hr2 hl2
          generalize hs : ((lsOf R).take i).any (fun x => bt x a) = s
          have S := hide hs
          clear hs
          cases s with
          | true =>
            go_wp2_with fail
            go_round
            case rel => exact ⟨i + 1, by omega, by go_num, by rw [E.out, S.out]; rfl⟩
            case measure => simp [intOf]; omega
          | false =>
            go_wp2_with fail
            refine (pareto_beats A2 A' n2 n' c2 c' B l2 a _ Hr2.out Hra.out Hl2.out Hla.out hn2).mono ?_; rintro e w' ⟨rfl, rfl⟩
            go_wp2_with fail
            go_round
            case rel => exact ⟨i + 1, by omega, by go_num, by rw [E.out, S.out]; rfl⟩
            case measure => simp [intOf]; omega
        · obtain rfl : i = n := by omega
          have hall : ((lsOf R).take i).any (fun x => bt x a) = beaten (lsOf R) a := by
            rw [List.take_of_length_le (by simp [lsOf, Hn.out])]; rfl
          simp only [hall]
          clear hall
          generalize hs : beaten (lsOf R) a = s
          cases s with
          | true =>
            have F := hide (front_out Hg.out hs)
            clear hs
            go_wp2_with fail
            go_roundw
            case rel => exact ⟨k + 1, by rw [Hn.out]; omega, by go_num, by rw [F.out]; exact HO.out, hbel⟩
            case measure => simp [intOf]; omega
          | false =>
            have F := hide (front_in Hg.out hs)
            clear hs
            go_wp2_with (at_builtin; refine push rfl _ _ 35 rfl Try.underlying35 Pareto.info rfl (by omega) (by omega) rfl (HO.out.alloc _) (k : Int) ⟨_, 0, none⟩ 1 rfl rfl (cell_one_new _ _ _) (by simp [Value.oneCell']) hL (Nat.le_trans hz (by simp)) ?_; intro v' w1 hown1 hb1)
            go_roundw
            case rel => exact ⟨k + 1, by rw [Hn.out]; omega, by go_num, by rw [F.out]; exact hown1, (hbel.alloc hz _).trans hb1⟩
            case measure => simp [intOf]; omega
    · obtain rfl : k = n := by omega
      go_wp2_with fail
      go_ret
      exact ⟨_, rfl, by rw [Hn.out]; exact HO.out, hbel⟩
end Go.Proofs.Ytkgkilogjodccaa
