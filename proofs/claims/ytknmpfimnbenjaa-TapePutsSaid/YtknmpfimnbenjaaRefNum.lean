/-
  The walk of the document's own Num (bytes).
-/
import Derived.Test.YtknmpfimnbenjaaReader2
import Derived.Deep.RegionHeld3
namespace Go.Proofs.Ytknmpfimnbenjaa
open Go.RowKit HB PackP
set_option linter.unusedVariables false
set_option linter.unusedSimpArgs false
namespace PackP
/-- what bytes say -/
def vl : List Int → Nat
  | [] => 0
  | c :: t => c.toNat % 128 + 128 * vl t
theorem vl_put : ∀ n : Nat, vl (put n) = n := by
  intro n
  induction n using Nat.strongRecOn with
  | ind n ih =>
    by_cases h : n < 128
    · rw [put_small h]; simp [vl]; omega
    · rw [put_big h]
      have := ih (n / 128) (by omega)
      simp only [vl, this]
      omega
/-- the last of a number's bytes is small, the others are not -/
theorem put_ends : ∀ (n i : Nat) (x : Int), (put n)[i]? = some x → (x < 128 ↔ i + 1 = (put n).length) := by
  intro n
  induction n using Nat.strongRecOn with
  | ind n ih =>
    intro i x hx
    by_cases h : n < 128
    · rw [put_small h] at hx ⊢
      cases i with
      | zero => simp at hx; subst hx; simp; omega
      | succ i => simp at hx
    · rw [put_big h] at hx ⊢
      have hp := put_pos (n / 128)
      cases i with
      | zero => simp at hx; subst hx; simp only [List.length_cons]; omega
      | succ i =>
        simp only [List.getElem?_cons_succ] at hx
        have := ih (n / 128) (by omega) i x hx
        simp only [List.length_cons]
        omega
/-- how many bytes the number takes -/
def cnt (l : List Int) : Nat := match num l with | some (_, k) => k | none => 0
theorem num_none_all {l : List Int} (hb : ∀ x ∈ l, 0 ≤ x ∧ x < 256) {k : Nat} (hk : k ≤ l.length) (hall : ∀ x ∈ l.take k, 128 ≤ x) (h : k = l.length ∨ 9 < k) : num l = none := by
  cases hn : num l with
  | none => rfl
  | some p =>
    obtain ⟨v, j⟩ := p
    obtain ⟨h1, h2, t, h3⟩ := num_is hb hn
    have h4 := put_ten h1
    have h5 := put_pos v
    exfalso
    have hlen : l.length = (put v).length + t.length := by rw [h3, List.length_append]
    obtain ⟨x, hx⟩ : ∃ x, (put v)[(put v).length - 1]? = some x := ⟨_, List.getElem?_eq_getElem (by omega)⟩
    have h6 := (put_ends v _ x hx).2 (by omega)
    have h7 : l[(put v).length - 1]? = some x := by rw [h3, List.getElem?_append_left (by omega)]; exact hx
    have h8 : (l.take k)[(put v).length - 1]? = some x := by rw [List.getElem?_take, if_pos (by omega)]; exact h7
    have := hall x (List.mem_of_getElem? h8)
    omega
theorem num_at {l : List Int} (hb : ∀ x ∈ l, 0 ≤ x ∧ x < 256) {k : Nat} {x : Int} (hx : l[k]? = some x) (h1 : x < 128) (hall : ∀ y ∈ l.take k, 128 ≤ y) {v j : Nat} (hn : num l = some (v, j)) : j = k + 1 ∧ l.take (k + 1) = put v := by
  obtain ⟨h2, h3, t, h4⟩ := num_is hb hn
  have h5 := put_pos v
  have hk : k < l.length := (List.getElem?_eq_some_iff.1 hx).1
  have hlen : l.length = (put v).length + t.length := by rw [h4, List.length_append]
  obtain ⟨y, hy⟩ : ∃ y, (put v)[(put v).length - 1]? = some y := ⟨_, List.getElem?_eq_getElem (by omega)⟩
  have h6 := (put_ends v _ y hy).2 (by omega)
  have h7 : l[(put v).length - 1]? = some y := by rw [h4, List.getElem?_append_left (by omega)]; exact hy
  have e : (put v).length = k + 1 := by
    rcases Nat.lt_trichotomy ((put v).length - 1) k with h8 | h8 | h8
    · have h9 : (l.take k)[(put v).length - 1]? = some y := by rw [List.getElem?_take, if_pos (by omega)]; exact h7
      have := hall y (List.mem_of_getElem? h9)
      omega
    · omega
    · have h9 : (put v)[k]? = some x := by rw [h4, List.getElem?_append_left (by omega)] at hx; exact hx
      have := (put_ends v k x h9).1 h1
      omega
  refine ⟨by omega, ?_⟩
  rw [h4, ← e, List.take_left]
theorem num_yes {l : List Int} {N k : Nat} (hN : N < 18446744073709551616) (h : put N = l.take (k + 1)) (hk : k < l.length) : num l = some (N, k + 1) := by
  have h2 := num_put hN (l.drop (k + 1))
  rw [h, List.take_append_drop] at h2
  rw [h2, List.length_take]
  congr 2
  omega
theorem num_no {l : List Int} (hb : ∀ x ∈ l, 0 ≤ x ∧ x < 256) {k : Nat} {x : Int} (hx : l[k]? = some x) (h1 : x < 128) (hall : ∀ y ∈ l.take k, 128 ≤ y) (h : put (vl (l.take (k + 1)) % 18446744073709551616) ≠ l.take (k + 1)) : num l = none := by
  cases hn : num l with
  | none => rfl
  | some p =>
    obtain ⟨v, j⟩ := p
    obtain ⟨h2, h3⟩ := num_at hb hx h1 hall hn
    have h4 := (num_is hb hn).1
    exfalso
    apply h
    rw [h3, vl_put, Nat.mod_eq_of_lt h4]
theorem strOf_inj : ∀ {a b : List Int}, (∀ x ∈ a, 0 ≤ x ∧ x < 256) → (∀ x ∈ b, 0 ≤ x ∧ x < 256) → (strOfNums a = strOfNums b ↔ a = b) := by
  intro a b ha hb
  refine ⟨fun h => ?_, fun h => by rw [h]⟩
  have h2 := congrArg (fun s => s.data.toList) h
  simp only [strOfNums_data] at h2
  clear h
  induction a generalizing b with
  | nil => cases b with
    | nil => rfl
    | cons y b => simp at h2
  | cons x a ih => cases b with
    | nil => simp at h2
    | cons y b =>
      simp only [List.map_cons, List.cons.injEq] at h2
      have h3 := ha x (List.mem_cons_self ..)
      have h4 := hb y (List.mem_cons_self ..)
      have h5 := congrArg UInt8.toNat h2.1
      simp only [UInt8.toNat_ofNat'] at h5
      rw [ih (fun z hz => ha z (List.mem_cons_of_mem _ hz)) (fun z hz => hb z (List.mem_cons_of_mem _ hz)) h2.2]
      have : x = y := by omega
      rw [this]
theorem str_ne {Z Y : ByteArray} (h : ¬ Z = Y) : (Z.toList == Y.toList) = false := by
  rw [beq_eq_false_iff_ne]
  intro e
  rw [ByteArray.toList_eq, ByteArray.toList_eq] at e
  apply h
  obtain ⟨⟨a⟩⟩ := Z
  obtain ⟨⟨b⟩⟩ := Y
  have : a = b := e
  rw [this]
theorem take_snoc {l : List Int} {k : Nat} {x : Int} (h : l[k]? = some x) : l.take (k + 1) = l.take k ++ [x] := by
  rw [List.take_add_one, h]; rfl
end PackP
set_option maxRecDepth 100000 in
set_option maxHeartbeats 4000000 in
theorem ref_num (A : Option Addr) (n c B : Nat) (l : List Int) (w : World) (hc : n ≤ c) (hl : l.length = n) (hr : Rd w B 1 A n (l.map (Value.int .u8))) (hB : B ≤ w.heap.size) (hb : ∀ x ∈ l, 0 ≤ x ∧ x < 256) (hn : n ≤ 1000000) :
    Calls Try.prog 28 #[.slice A n c] w fun e w' => e = .returned (.tuple #[.int .u64 (nv l), .int .i64 (cnt l)]) ∧ Below w.heap.size w w' := by
  have HB := hide hb
  have HRD := hide hr
  have Hl := hide hl
  clear hb hr hl
  go_enter Try.func28, Try.ntmps28
  go_wp2_with fail
  go_loopw [4] (fun i wr => ∃ k : Nat, k ≤ n ∧ i = .int .i64 k ∧ (∀ x ∈ l.take k, 128 ≤ x) ∧ wr = w) (fun i _ => n - (intOf i).toNat)
  case atStart => exact ⟨0, by omega, rfl, by simp, rfl⟩
  case round =>
    obtain ⟨k, hk, rfl, hall, rfl⟩ := hrel
    have HA := hide hall
    clear hall
    by_cases hlt : k < n
    · obtain ⟨b, off, x, rfl, hbB, hg, cx⟩ := HRD.out.int_at Hl.out hlt
      have hx := HB.out x (List.mem_of_getElem? hg)
      have HG := hide hg
      have hkn : ((k : Int) == (n : Int)) = false := by simp; omega
      clear hg
      by_cases h1 : x < 128
      · by_cases h9 : 9 < k
        · have hnn := num_none_all HB.out (by rw [Hl.out]; exact hk) HA.out (.inr h9)
          have hv : nv l = 0 ∧ cnt l = 0 := by simp [nv, cnt, hnn]
          have HV := hide hv
          clear hv hnn
          go_wp2_with fail
          go_ret2
          rw [HV.out.1, HV.out.2]
          exact ⟨rfl, Below.refl _ _⟩
        · go_wp2_with fail
          go_loopw [5, 6] (fun o i w2 => ∃ j N : Nat, j ≤ k + 1 ∧ i = .int .i64 ((j : Int) - 1) ∧ o = .int .u64 N ∧ N = vl ((l.take (k + 1)).drop j) % 18446744073709551616 ∧ w2 = wr) (fun _ i _ => (intOf i + 1).toNat)
          case atStart => exact ⟨k + 1, 0, by omega, by go_num, rfl, by rw [List.drop_of_length_le (by rw [List.length_take]; omega)]; rfl, rfl⟩
          case round =>
            obtain ⟨j, N, hj, rfl, rfl, hN, rfl⟩ := hrel
            have HN := hide hN
            have hN64 : N < 18446744073709551616 := by rw [hN]; exact Nat.mod_lt _ (by decide)
            clear hN
            by_cases hj0 : 0 < j
            · obtain ⟨q, rfl⟩ : ∃ q, j = q + 1 := ⟨j - 1, by omega⟩
              obtain ⟨b2, off2, y, hA2, hb2, hg2, cy⟩ := HRD.out.int_at Hl.out (show q < n by omega)
              simp only [Option.some.injEq, Addr.mk.injEq, and_true] at hA2
              obtain ⟨rfl, rfl⟩ := hA2
              have hy := HB.out y (List.mem_of_getElem? hg2)
              obtain ⟨T, hT⟩ : ∃ T : Nat, T = (128 * N) % 18446744073709551616 := ⟨_, rfl⟩
              obtain ⟨M, hM⟩ : ∃ M : Nat, M = (T + y.toNat % 128) % 18446744073709551616 := ⟨_, rfl⟩
              have e0 : ((q + 1 : Nat) : Int) - 1 = (q : Int) := by omega
              have e1 : IntKind.u64.wrap (128 * (N : Int)) = (T : Int) := by rw [IntKind.wrap_u64]; omega
              have e2 : IntKind.u64.wrap ((T : Int) + y % 128) = (M : Int) := by rw [IntKind.wrap_u64]; omega
              have hval : M = vl ((l.take (k + 1)).drop q) % 18446744073709551616 := by
                have h8 : (l.take (k + 1))[q]? = some y := by rw [List.getElem?_take, if_pos (by omega)]; exact hg2
                have h9 : (l.take (k + 1)).drop q = y :: (l.take (k + 1)).drop (q + 1) := by
                  obtain ⟨h10, h11⟩ := List.getElem?_eq_some_iff.1 h8
                  rw [← h11, List.getElem_cons_drop]
                rw [h9, hM, hT, HN.out]
                simp only [vl]
                omega
              have HVAL := hide hval
              clear hval hT hM hg2
              go_wp2_with fail
              go_roundw
              case rel => exact ⟨q, M, by omega, rfl, rfl, HVAL.out, by first | rfl | trivial⟩
              case measure => simp [intOf] <;> omega
            · obtain rfl : j = 0 := by omega
              have hN2 := HN.out
              rw [List.drop_zero] at hN2
              have hhold : (nv l = if put N = l.take (k + 1) then N else 0) ∧ (cnt l = if put N = l.take (k + 1) then k + 1 else 0) := by
                by_cases hq : put N = l.take (k + 1)
                · have := num_yes hN64 hq (by rw [Hl.out]; exact hlt)
                  rw [if_pos hq, if_pos hq]; simp [nv, cnt, this]
                · have := num_no HB.out HG.out h1 HA.out (by rw [← hN2]; exact hq)
                  rw [if_neg hq, if_neg hq]; simp [nv, cnt, this]
              have hstr := strOf_inj (a := put N) (b := l.take (k + 1)) (put_in N) (fun z hz => HB.out z (List.mem_of_mem_take hz))
              obtain ⟨K1, hK1⟩ : ∃ K1 : Nat, K1 = k + 1 := ⟨_, rfl⟩
              have eK : IntKind.i64.wrap ((k : Int) + 1) = (K1 : Int) := (IntWalk.i64_in _ (by omega)).trans (by omega)
              have eK2 : (k : Int) + 1 = (K1 : Int) := by omega
              have i0 : (0 : Int) ≤ (K1 : Int) := by omega
              have i1 : (K1 : Int) ≤ (c : Int) := by omega
              have HK1 := hide hK1
              have hcv : ∀ W, Below wr.heap.size wr W → (convert 22 9 (.slice (some ⟨b, off, none⟩) K1 c)).run Try.prog W = .ok (.string (strOfNums (l.take (k + 1)))) W := fun W h => by rw [hK1]; exact conv_bytes _ _ c _ W ((HRD.out.take' Hl.out (show k + 1 ≤ n by omega)).below (h.mono hB))
              have hcv0 := hcv _ (Below.refl _ _)
              have HP := hide (ref_put N hN64)
              have HH := hide hhold
              clear hhold hN2
              obtain ⟨Y, hY⟩ : ∃ Y, Y = strOfNums (l.take (k + 1)) := ⟨_, rfl⟩
              obtain ⟨Z, hZ⟩ : ∃ Z, Z = strOfNums (put N) := ⟨_, rfl⟩
              rw [← hY] at hcv0 hstr
              rw [← hZ] at hstr
              simp only [← hY] at hcv
              have HC := hide hcv
              have HZ := hide hZ
              clear hY hZ cx hcv hK1 eK2
              by_cases hq : put N = l.take (k + 1)
              · rw [if_pos hq, if_pos hq, ← HK1.out] at HH
                have hzy : Z = Y := hstr.2 hq
                clear hq hstr
                go_wp2_with fail
                have hcvd := HC.out wr.drew (Below.refl _ _).drew
                go_region_with (go_at_call 12; refine (HP.out _).mono ?_; rintro e w3 ⟨⟨v3, rfl, o3⟩, hb3⟩; obtain ⟨A3, c3, rfl, hc3, r3⟩ := o3.ints; have hcv3 := conv_bytes A3 _ c3 _ w3 r3; rw [← HZ.out] at hcv3; have hcv4 := HC.out w3 (then_ (Below.refl _ _).drew hb3 (Nat.le_refl _)))
                all_goals
                  go_wp2_with fail
                  go_ret2
                  rw [HH.out.1, HH.out.2]
                  exact ⟨rfl, then_ (Below.refl _ _).drew hb3 (Nat.le_refl _)⟩
              · rw [if_neg hq, if_neg hq] at HH
                have hzy : ¬ Z = Y := fun h => hq (hstr.1 h)
                have hzt := str_ne hzy
                clear hq hstr
                go_wp2_with fail
                have hcvd := HC.out wr.drew (Below.refl _ _).drew
                go_region_with (go_at_call 12; refine (HP.out _).mono ?_; rintro e w3 ⟨⟨v3, rfl, o3⟩, hb3⟩; obtain ⟨A3, c3, rfl, hc3, r3⟩ := o3.ints; have hcv3 := conv_bytes A3 _ c3 _ w3 r3; rw [← HZ.out] at hcv3; have hcv4 := HC.out w3 (then_ (Below.refl _ _).drew hb3 (Nat.le_refl _)))
                all_goals
                  go_wp2_with fail
                  go_ret2
                  rw [HH.out.1, HH.out.2]
                  exact ⟨rfl, then_ (Below.refl _ _).drew hb3 (Nat.le_refl _)⟩
      · go_wp2_with fail
        go_roundw
        case rel => exact ⟨k + 1, by omega, by go_num, by rw [take_snoc HG.out]; intro z hz; rcases List.mem_append.1 hz with hz | hz; exact HA.out z hz; simp at hz; omega, by first | rfl | trivial⟩
        case measure => simp [intOf]; omega
    · obtain rfl : k = n := by omega
      have hnn := num_none_all HB.out (by rw [Hl.out]; exact hk) HA.out (.inl Hl.out.symm)
      have hv : nv l = 0 ∧ cnt l = 0 := by simp [nv, cnt, hnn]
      have HV := hide hv
      clear hv hnn
      go_wp2_with fail
      go_ret2
      rw [HV.out.1, HV.out.2]
      exact ⟨rfl, Below.refl _ _⟩
end Go.Proofs.Ytknmpfimnbenjaa
