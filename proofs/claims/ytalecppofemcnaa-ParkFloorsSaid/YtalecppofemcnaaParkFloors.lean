/-
  The law ParkFloors holds: whatever the weights and the number of floors, the call returns true and turns nothing. No condition.
-/
import Derived.Test.YtalecppofemcnaaRows
import Derived.Test.YtalecppofemcnaaFrame
import Derived.Test.YtalecppofemcnaaParkClone
import Derived.Test.YtalecppofemcnaaParkAlive
namespace Go.Proofs.Ytalecppofemcnaa
open Go.ChangeShapes Go.WideShapes Go.ChangeAt Go.RowKit HB ParkP
set_option linter.unusedVariables false
set_option linter.unusedSimpArgs false

set_option maxRecDepth 100000 in
set_option maxHeartbeats 8000000 in
theorem parkFloors_yes (A : Option Addr) (n c : Nat) (l : List Int) (k : Int) (w : World) (hr : Rd w w.heap.size 1 A n (l.map (Value.int .i64))) (hl : l.length = n) (hok : okP l = true) (hn : n ≤ 40) (hk : 1 ≤ k) (hk6 : k ≤ 6) :
    Calls Try.prog 11 #[.slice A n c, .int .i64 k] w fun e w' => e = .returned (.bool true) ∧ Below w.heap.size w w' := by
  have hn0 := (okP_yes hok).1
  rw [hl] at hn0
  obtain ⟨K, hK⟩ : ∃ K : Nat, min k (n : Int) = (K : Int) := ⟨(min k (n : Int)).toNat, by omega⟩
  have h1 := ref_right A n c w.heap.size l w hr hl (by omega)
  rw [hok] at h1
  have h2 := park_best A n c w.heap.size K l k w hr (Nat.le_refl _) hl hok hk hK
  unfold Best.Post at h2
  obtain ⟨f1, f2, f3, f4, f5, f6⟩ := best_is hok (K := K) (by omega) (by omega)
  rw [hl] at f1 f2 f3 f4 f5 f6
  generalize tc l (bst l n (K + 1)) n = T at *
  generalize reco l (bst l n (K + 1)) n = F at *
  have hgood : good l F = true := by simp [good, hok, f2, hl, f3]
  have h3 := fun (W : World) (A' : Option Addr) (c' : Nat) (hb : Below w.heap.size w W) (hf : Rd W W.heap.size 1 A' F.length (F.map (Value.int .i64))) => park_cost A A' n c F.length c' W.heap.size l F W ((hr.below hb).mono hb.size) hl hf rfl (by omega) (by omega)
  unfold CostPost at h3
  simp only [hgood, if_true, hl, f5] at h3
  have hm0 : 0 < F.length := List.length_pos_iff.2 f2
  have hm6 : F.length ≤ 6 := by omega
  have hmk : (F.length : Int) ≤ k := by omega
  have H1 := hide h1
  have H2 := hide h2
  have H3 := hide h3
  have HR := hide hr
  have Hl := hide hl
  have Hok := hide hok
  have F3 := hide f3
  have F4 := hide f4
  have F6 := hide f6
  have hself : (T != T) = false := by simp
  have d1 : decide (40 < n) = false := by simp; omega
  have d2 : decide (k < 1) = false := by simp; omega
  have d3 : decide (6 < k) = false := by simp; omega
  have d4 : decide (k < (F.length : Int)) = false := by simp; omega
  clear h1 h2 h3 hr hl hok f3 f4 f5 f6 hgood hK f2
  go_enter Try.func11, Try.ntmps11
  go_wp2_with (first
    | (go_at_call 31; refine (H1.out).mono ?_; rintro e w1 ⟨rfl, rfl⟩))
  refine (H2.out).mono ?_; rintro e w1 ⟨v, rfl, hown, hb1⟩
  obtain ⟨g, cap, rfl, hg1, hg2, hcap, -, -⟩ := hown.at_ hm0
  have hrd : Rd w1 w1.heap.size 1 (some ⟨g, 0, none⟩) F.length (F.map (Value.int .i64)) := by have := Rd.own hown.row; rwa [map_flat] at this
  have HF := hide hrd
  have HB1 := hide hb1
  have hz1 := hb1.size
  clear hown hrd hb1
  go_wp2_with (first
    | (go_at_call 34; refine (H3.out _ _ _ HB1.out HF.out).mono ?_; rintro e w2 ⟨rfl, q, rfl⟩))
  go_loopw [10, 11, 12, 13, 14] (fun i _ _ _ _ wr => ∃ u : Nat, u ≤ F.length ∧ i = .int .i64 u ∧ Below w1.heap.size w1 wr) (fun i _ _ _ _ _ => F.length - (intOf i).toNat)
  case atStart => exact ⟨0, Nat.zero_le _, rfl, below_drewN (Below.refl _ _) _⟩
  case round =>
    obtain ⟨u, hu, rfl, hbel⟩ := hrel
    by_cases hlt : u < F.length
    · obtain ⟨b, off, x, hA, hb, hg, c0⟩ := (HF.out.below hbel).int_at rfl hlt
      simp only [Option.some.injEq, Addr.mk.injEq, and_true] at hA
      obtain ⟨rfl, rfl⟩ := hA
      have Hg := hide hg
      have i0 : (0 : Int) ≤ (u : Int) := by omega
      have i1 : (u : Int) < (F.length : Int) := by omega
      clear hg
      rcases Nat.eq_zero_or_pos u with h0 | h0
      · have g1 : decide ((0 : Int) < (u : Int)) = false := by simp; omega
        have g2 : decide (0 < u) = false := by simp; omega
        have HU0 := hide h0
        clear h0
        go_wp2_with fail
        go_quiet (fail)
        go_wp2_with fail
        go_loopw [11, 12, 13, 14] (fun d _ _ _ wr => ∃ e : Nat, e ≤ 3 ∧ d = .int .i64 ((e : Int) - 1) ∧ Below w1.heap.size w1 wr) (fun d _ _ _ _ => 3 - ((intOf d) + 1).toNat)
        case atStart => exact ⟨0, by omega, rfl, by first | exact hbel | exact below_drewN hbel _⟩
        case round =>
          clear hbel
          obtain ⟨e, he, rfl, hbel⟩ := hrel
          by_cases hle : e < 3
          · have hzr := hbel.size
            have HCL := hide (clone_ints g 0 F.length cap w1.heap.size F wr (HF.out.below hbel) hzr rfl (by omega))
            have HBL := hide hbel
            clear hbel
            go_wp2_with fail
            refine (HCL.out).mono ?_; rintro e9 w2 ⟨v2, rfl, hown2, hb2⟩
            obtain ⟨g2, cap2, rfl, hg21, hg22, hcap2, -, -⟩ := hown2.at_ hm0
            obtain ⟨x2, hx2, cx, fx⟩ := hown2.int_at rfl hlt
            obtain rfl : x2 = x := by have := Hg.out; rw [hx2] at this; exact Option.some.inj this
            have hxr := inR_get F3.out hx2
            obtain ⟨Y, hYe⟩ : ∃ Y, Y = x2 + ((e : Int) - 1) := ⟨_, rfl⟩
            have e2 : IntKind.i64.wrap (x2 + ((e : Int) - 1)) = Y := by rw [hYe]; exact IntWalk.i64_in _ (by omega)
            clear hYe
            have HY := hide (hown2.store rfl u Y)
            have hb3 : Below w1.heap.size w1 (w2.setCell ⟨g2, u, none⟩ (.int .i64 Y)) := HBL.out.trans ((hb2.trans HY.out.2).mono hzr)
            have hrf : Rd (w2.setCell ⟨g2, u, none⟩ (.int .i64 Y)) (w2.setCell ⟨g2, u, none⟩ (.int .i64 Y)).heap.size 1 (some ⟨g2, 0, none⟩) F.length ((F.set u Y).map (Value.int .i64)) := by
              have h9 := HY.out.1.row
              rw [List.length_set, map_flat] at h9
              exact Rd.own h9
            have hbw3 := HB1.out.trans (hb3.mono hz1)
            have hrc := ref_cost A (some ⟨g2, 0, none⟩) n c F.length cap2 _ l (F.set u Y) _ ((HR.out.below hbw3).mono hbw3.size) Hl.out hrf (by simp) (by omega) (by omega)
            have hle2 : good l (F.set u Y) = true → T ≤ cs l (F.set u Y) l.length := fun hgd => by
              rw [Hl.out]
              simp only [good, Bool.and_eq_true, Hl.out] at hgd
              exact F6.out _ (fun h => by have := congrArg List.length h; rw [List.length_set, List.length_nil] at this; omega) (by rw [List.length_set]; omega) hgd.2
            have HB3 := hide hb3
            unfold CostPost2 at hrc
            have d9 : decide ((if good l (F.set u Y) = true then cs l (F.set u Y) l.length else 0) < T) = false ∨ good l (F.set u Y) = false := by
              cases hgd : good l (F.set u Y) with
              | true => left; simp; exact hle2 hgd
              | false => exact .inr rfl
            have HRC := hide hrc
            clear hrc hrf hbw3 hle2 HY hx2 hxr hown2 hb2 hb3
            generalize (if good l (F.set u Y) = true then cs l (F.set u Y) l.length else 0) = V at *
            generalize good l (F.set u Y) = G at *
            rcases d9 with d9 | rfl
            · cases G <;> (
                go_wp2_with (go_at_call 35; refine (HRC.out).mono ?_; rintro e9 w9 ⟨rfl, rfl⟩)
                go_roundw
                case rel => exact ⟨e + 1, by omega, congrArg _ (by omega), HB3.out⟩
                case measure => simp [intOf]; omega)
            · go_wp2_with (go_at_call 35; refine (HRC.out).mono ?_; rintro e9 w9 ⟨rfl, rfl⟩)
              go_roundw
              case rel => exact ⟨e + 1, by omega, congrArg _ (by omega), HB3.out⟩
              case measure => simp [intOf]; omega
          · obtain rfl : e = 3 := by omega
            go_wp2_with fail
            go_roundw
            case rel => exact ⟨u + 1, by omega, by go_num, hbel⟩
            case measure => simp [intOf]; omega
      · have g1 : decide ((0 : Int) < (u : Int)) = true := by simp; omega
        have g2 : decide (0 < u) = true := by simpa using h0
        obtain ⟨z, hz⟩ : ∃ z, u = z + 1 := ⟨u - 1, by omega⟩
        obtain ⟨b', off', y, hA', hb', hg', c1⟩ := (HF.out.below hbel).int_at rfl (show z < F.length by omega)
        simp only [Option.some.injEq, Addr.mk.injEq, and_true] at hA'
        obtain ⟨rfl, rfl⟩ := hA'
        rw [Nat.zero_add] at c0 c1
        have hyx : y < x := by
          obtain ⟨q1, q2⟩ := List.getElem?_eq_some_iff.1 Hg.out
          obtain ⟨q3, q4⟩ := List.getElem?_eq_some_iff.1 hg'
          have := List.pairwise_iff_getElem.1 F4.out z u q3 q1 (by omega)
          rw [q2, q4] at this
          exact this
        have g3 : decide (x ≤ y) = false := by simp; omega
        have e1 : IntKind.i64.wrap ((u : Int) - 1) = (z : Int) := by
          rw [show (u : Int) - 1 = (z : Int) by omega]; exact IntWalk.i64_in _ (by omega)
        have i2 : (0 : Int) ≤ (z : Int) := by omega
        have i3 : (z : Int) < (F.length : Int) := by omega
        clear hg' hz hyx h0
        go_wp2_with fail
        go_quiet (fail)
        go_wp2_with fail
        clear e1 g1 g2 g3 i2 i3 c0 c1
        go_loopw [11, 12, 13, 14] (fun d _ _ _ wr => ∃ e : Nat, e ≤ 3 ∧ d = .int .i64 ((e : Int) - 1) ∧ Below w1.heap.size w1 wr) (fun d _ _ _ _ => 3 - ((intOf d) + 1).toNat)
        case atStart => exact ⟨0, by omega, rfl, by first | exact hbel | exact below_drewN hbel _⟩
        case round =>
          clear hbel
          obtain ⟨e, he, rfl, hbel⟩ := hrel
          by_cases hle : e < 3
          · have hzr := hbel.size
            have HCL := hide (clone_ints g 0 F.length cap w1.heap.size F wr (HF.out.below hbel) hzr rfl (by omega))
            have HBL := hide hbel
            clear hbel
            go_wp2_with fail
            refine (HCL.out).mono ?_; rintro e9 w2 ⟨v2, rfl, hown2, hb2⟩
            obtain ⟨g2, cap2, rfl, hg21, hg22, hcap2, -, -⟩ := hown2.at_ hm0
            obtain ⟨x2, hx2, cx, fx⟩ := hown2.int_at rfl hlt
            obtain rfl : x2 = x := by have := Hg.out; rw [hx2] at this; exact Option.some.inj this
            have hxr := inR_get F3.out hx2
            obtain ⟨Y, hYe⟩ : ∃ Y, Y = x2 + ((e : Int) - 1) := ⟨_, rfl⟩
            have e2 : IntKind.i64.wrap (x2 + ((e : Int) - 1)) = Y := by rw [hYe]; exact IntWalk.i64_in _ (by omega)
            clear hYe
            have HY := hide (hown2.store rfl u Y)
            have hb3 : Below w1.heap.size w1 (w2.setCell ⟨g2, u, none⟩ (.int .i64 Y)) := HBL.out.trans ((hb2.trans HY.out.2).mono hzr)
            have hrf : Rd (w2.setCell ⟨g2, u, none⟩ (.int .i64 Y)) (w2.setCell ⟨g2, u, none⟩ (.int .i64 Y)).heap.size 1 (some ⟨g2, 0, none⟩) F.length ((F.set u Y).map (Value.int .i64)) := by
              have h9 := HY.out.1.row
              rw [List.length_set, map_flat] at h9
              exact Rd.own h9
            have hbw3 := HB1.out.trans (hb3.mono hz1)
            have hrc := ref_cost A (some ⟨g2, 0, none⟩) n c F.length cap2 _ l (F.set u Y) _ ((HR.out.below hbw3).mono hbw3.size) Hl.out hrf (by simp) (by omega) (by omega)
            have hle2 : good l (F.set u Y) = true → T ≤ cs l (F.set u Y) l.length := fun hgd => by
              rw [Hl.out]
              simp only [good, Bool.and_eq_true, Hl.out] at hgd
              exact F6.out _ (fun h => by have := congrArg List.length h; rw [List.length_set, List.length_nil] at this; omega) (by rw [List.length_set]; omega) hgd.2
            have HB3 := hide hb3
            unfold CostPost2 at hrc
            have d9 : decide ((if good l (F.set u Y) = true then cs l (F.set u Y) l.length else 0) < T) = false ∨ good l (F.set u Y) = false := by
              cases hgd : good l (F.set u Y) with
              | true => left; simp; exact hle2 hgd
              | false => exact .inr rfl
            have HRC := hide hrc
            clear hrc hrf hbw3 hle2 HY hx2 hxr hown2 hb2 hb3
            generalize (if good l (F.set u Y) = true then cs l (F.set u Y) l.length else 0) = V at *
            generalize good l (F.set u Y) = G at *
            rcases d9 with d9 | rfl
            · cases G <;> (
                go_wp2_with (go_at_call 35; refine (HRC.out).mono ?_; rintro e9 w9 ⟨rfl, rfl⟩)
                go_roundw
                case rel => exact ⟨e + 1, by omega, congrArg _ (by omega), HB3.out⟩
                case measure => simp [intOf]; omega)
            · go_wp2_with (go_at_call 35; refine (HRC.out).mono ?_; rintro e9 w9 ⟨rfl, rfl⟩)
              go_roundw
              case rel => exact ⟨e + 1, by omega, congrArg _ (by omega), HB3.out⟩
              case measure => simp [intOf]; omega
          · obtain rfl : e = 3 := by omega
            go_wp2_with fail
            go_roundw
            case rel => exact ⟨u + 1, by omega, by go_num, hbel⟩
            case measure => simp [intOf]; omega
    · obtain rfl : u = F.length := by omega
      have hb := HB1.out.trans (hbel.mono hz1)
      go_wp2_with (go_at_call 32; refine (park_alive _).mono ?_; rintro e w9 ⟨rfl, hb9⟩)
      go_ret
      exact ⟨rfl, then_ hb hb9 (Nat.le_refl _)⟩

set_option maxRecDepth 100000 in
theorem parkFloors_lifted (os : Os) (started : os.Started) (H : Type) (enc : TypeId × Value → H) :
    ReturnsInHanded {} Try.checked os 11 .any (Rows.parkFloorsSpec.pre6 enc Try.prog Try.f11 [] false) (Rows.parkFloorsSpec.post enc Try.prog Try.f11 false true false false) := by
  refine law_lifted (C := Try.checked) Try.own started (by kernel_rfl) Try.func11
    (ChangeSpec.witness6 (enc := enc) (C := Try.checked) false ⟨#[], #[.slice none 0 0, .int .i64 0], []⟩ 8 (by kernel_rfl) (by kernel_rfl) (by kernel_rfl) (by kernel_rfl))
    Try.laidOut (show ∀ t ∈ [26, 3], Try.prog.readableRec t = true ∧ t < Try.prog.types.size from by
      intro t ht; simp only [List.mem_cons, List.not_mem_nil, or_false] at ht; rcases ht with rfl | rfl <;> exact ⟨by kernel_rfl, of_decide_eq_true (by kernel_rfl)⟩) (tb := 4) (by kernel_rfl) Try.underlying4 rfl (fun ds hd => ?_) ?_
  · match ds, hd with
    | [_, _], _ => rfl
  · intro W base args ds p hval hA
    have hval' : ∀ (j : Nat) t v, Try.f11.params[j]? = some t → args[j]? = some v → Value.okWide Try.prog W .any base t v := hval
    rw [Try.params11] at hA hval'
    obtain ⟨v0, v1, d0, d1, p0, p1, rfl, rfl, rfl, h0, h1⟩ := trodAll_two hA
    obtain ⟨A, n, c, l, rfl, hl, hcA, hcB, _, hr⟩ := arg_ints Try.underlying26 Try.underlying3 (by kernel_rfl) (hval' 0 _ _ rfl rfl) h0
    obtain ⟨k, rfl, w1⟩ := arg_int Try.underlying3 (hval' 1 _ _ rfl rfl) h1
    have hn : n ≤ 9223372036854775807 := by
      simp only [maxLen] at hcB; omega
    by_cases hc : okP l = false ∨ 40 < n ∨ k < 1 ∨ 6 < k
    · exact parkFloors_no A n c l k W hr hl hn hc
    · exact parkFloors_yes A n c l k W hr hl (by cases h : okP l with | true => rfl | false => exact absurd (.inl h) hc) (by omega) (by omega) (by omega)

theorem parkFloors_holds : Rows.ParkFloorsSaid :=
  OpenClaim.holds_of_wide 11 Try.f11 rfl rfl rfl rfl rfl rfl rfl ⟨rfl, rfl, rfl, rfl, rfl⟩ rfl rfl rfl rfl rfl (by kernel_rfl) Try.func11 (by kernel_rfl)
    (of_decide_eq_true (by kernel_rfl)) (by unfold Func.isWrapper; first | (rw [if_pos (by decide +kernel)]; kernel_rfl) | (rw [if_neg (by decide +kernel)]; exact ⟨rfl, rfl⟩))
    (fun os started H enc _ => parkFloors_lifted os started H enc)
#print axioms parkFloors_holds
end Go.Proofs.Ytalecppofemcnaa
