/-
  The law ParetoLayers holds: whatever the rows, the call returns true and turns nothing. No condition.
-/
import Derived.Test.YtkgkilogjodccaaRows
import Derived.Test.YtkgkilogjodccaaFrame
import Derived.Test.YtkgkilogjodccaaParetoAlive
import Derived.Test.YtkgkilogjodccaaIdeal
import Derived.Deep.DeepCutAuto
import Derived.Deep.RegionHeld3
namespace Go.Proofs.Ytkgkilogjodccaa
open Go.ChangeShapes Go.WideShapes Go.ChangeAt Go.RowKit HB ParetoP
set_option linter.unusedVariables false
set_option linter.unusedSimpArgs false

def LayersQ (w : World) (e : Ending) (w' : World) : Prop := e = .returned (.bool true) ∧ Below w.heap.size w w'
/-- are there rows, and the first i of as many numbers as the first? -/
def akn (ls : List (List Int)) : Nat → Bool
  | 0 => decide (0 < ls.length)
  | i + 1 => akn ls i && decide ((rw_ ls i).length = (rw_ ls 0).length)
theorem akn_yes {ls : List (List Int)} (h : alike ls) : ∀ i, i ≤ ls.length → akn ls i = true
  | 0, _ => by unfold akn; simpa using h.1
  | i + 1, hi => by unfold akn; rw [akn_yes h i (by omega), h.2 i (by omega)]; simp
theorem akn_no {ls : List (List Int)} : akn ls ls.length = true → alike ls := by
  intro h
  have key : ∀ i, akn ls i = true → 0 < ls.length ∧ ∀ j, j < i → (rw_ ls j).length = (rw_ ls 0).length := by
    intro i
    induction i with
    | zero => intro h; unfold akn at h; exact ⟨by simpa using h, fun j hj => by omega⟩
    | succ i ih =>
      intro h
      unfold akn at h
      simp only [Bool.and_eq_true, decide_eq_true_eq] at h
      obtain ⟨h1, h2⟩ := ih h.1
      refine ⟨h1, fun j hj => ?_⟩
      by_cases he : j = i
      · subst he; exact h.2
      · exact h2 j (by omega)
  obtain ⟨h1, h2⟩ := key _ h
  exact ⟨h1, fun i hi => h2 i hi⟩
/-- has one of the first t rows x at k? -/
def sm (ls : List (List Int)) (k : Nat) (x : Int) : Nat → Bool
  | 0 => false
  | t + 1 => sm ls k x t || decide ((rw_ ls t)[k]? = some x)
theorem sm_yes {ls : List (List Int)} {k : Nat} {x : Int} {m : Nat} (h : ∃ i, i < m ∧ (rw_ ls i)[k]? = some x) : sm ls k x m = true := by
  obtain ⟨i, hi, hx⟩ := h
  induction m with
  | zero => omega
  | succ m ih =>
    unfold sm
    by_cases he : i = m
    · subst he; rw [hx]; simp
    · rw [ih (by omega)]; rfl
theorem Rws.row_ {w : World} {B n : Nat} {A : Option Addr} {R : List RowR} (h : Rws w B A n R) {i : Nat} (hi : i < n) :
    ∃ b off A' n' c', A = some ⟨b, off, none⟩ ∧ b < B ∧ w.cell? ⟨b, off + i, none⟩ = some (.slice A' n' c') ∧ Rd w B 1 A' n' ((rw_ (lsOf R) i).map (Value.int .i64)) ∧ (rw_ (lsOf R) i).length = n' ∧ rw_ (lsOf R) i ∈ lsOf R := by
  obtain ⟨b, off, A', n', c', l, hA, hb, hg, hc, hr, hl⟩ := h.at_ hi
  have he : rw_ (lsOf R) i = l := by simp [rw_, List.getD, hg]
  rw [he]
  exact ⟨b, off, A', n', c', hA, hb, hc, hr, hl, List.mem_of_getElem? hg⟩
set_option maxRecDepth 100000 in
set_option maxHeartbeats 8000000 in
theorem paretoLayers_walk (A : Option Addr) (n c : Nat) (R : List RowR) (w : World) (hr : Rws w w.heap.size A n R) (hc : n ≤ c) :
    Calls Try.prog 14 #[.slice A n c] w (LayersQ w) := by
  have HGR := hide (law_great A n c w.heap.size R w hr)
  have HR := hide hr
  have HLN := hide (show (lsOf R).length = n by simp [lsOf, hr.2.1])
  clear hr
  go_enter Try.func14, Try.ntmps14
  go_wp2_with fail
  refine (HGR.out).mono ?_
  rintro e w1 ⟨he, rfl⟩
  rcases he with rfl | ⟨rfl, hn, h8⟩
  · go_wp2_with fail
    go_ret
    exact ⟨rfl, Below.refl _ _⟩
  · have H8 := hide h8
    have HLA := hide (pareto_layers A n c w.heap.size R w HR.out (Nat.le_refl _) hn h8)
    have hneq : ((n : Int) != (n : Int)) = false := by simp
    clear h8 HGR
    go_wp2_with (go_at_call 57; refine (HLA.out).mono ?_; rintro e w3 ⟨⟨v3, lo, rfl, hown3, hlo, htold⟩, hb3⟩; obtain ⟨A3, c3, rfl, hc3, -⟩ := hown3.shape; rw [show (cst lo).length = n from by rw [List.length_map]; exact hlo] at hown3 hc3 ⊢; have HG0 := hide (Own.rd hown3 (by rw [List.length_map]; exact hlo)); have HLO := hide hlo; have HTO := hide htold; have HB3 := hide hb3; clear hown3 hlo htold hb3)
    go_loopw [4] (fun s4 wr => ∃ i : Nat, i ≤ n ∧ s4 = .int .i64 i ∧ Below w3.heap.size w3 wr) (fun s4 _ => n - (intOf s4).toNat)
    case atStart => exact ⟨0, Nat.zero_le _, rfl, Below.refl _ _⟩
    case round =>
      obtain ⟨i, hi, rfl, hbel⟩ := hrel
      have HBE := hide hbel
      have hb0 := HB3.out.trans (hbel.mono HB3.out.size)
      have HB0 := hide hb0
      clear hbel
      by_cases hlt : i < n
      · clear hb0
        go_wp2_with fail
        go_loopw [5, 6] (fun s5 s6 wx => ∃ k : Nat, k ≤ n ∧ s6 = .int .i64 k ∧ s5 = .int .i64 (last (lsOf R) (fun i => lo.getD i 0) i k) ∧ Below w3.heap.size w3 wx) (fun _ s6 _ => n - (intOf s6).toNat)
        case atStart => exact ⟨0, Nat.zero_le _, rfl, rfl, HBE.out⟩
        case round =>
          obtain ⟨k, hk, rfl, rfl, hbx⟩ := hrel
          have HBX := hide hbx
          have hbw := HB3.out.trans (hbx.mono HB3.out.size)
          have HBW := hide hbw
          obtain ⟨LA, hLA⟩ : ∃ z, z = last (lsOf R) (fun i => lo.getD i 0) i k := ⟨_, rfl⟩
          have HLAST := hide hLA
          rw [← hLA]
          clear hLA
          by_cases hlk : k < n
          · obtain ⟨b, off, A1, n1, c1, rfl, hb, x0, hr1, hl1, hm1⟩ := (HR.out.below hbw).row_ hlk
            obtain ⟨b', off', A2, n2, c2, hA', hb', y0, hr2, hl2, hm2⟩ := (HR.out.below hbw).row_ hlt
            simp only [Option.some.injEq, Addr.mk.injEq, and_true] at hA'
            obtain ⟨rfl, rfl⟩ := hA'
            have HBT := hide (law_beats A1 A2 n1 n2 c1 c2 w.heap.size _ _ wr.drew (hr1.drew) (hr2.drew) hl1 hl2 (by have := H8.out _ hm1; omega))
            obtain ⟨bt_, hbt⟩ : ∃ z, z = bt (rw_ (lsOf R) k) (rw_ (lsOf R) i) := ⟨_, rfl⟩
            rw [← hbt] at HBT
            have HBTT := hide hbt
            have i0 : (0 : Int) ≤ (k : Int) := by omega
            have i1 : (k : Int) < (n : Int) := by omega
            have i2 : (0 : Int) ≤ (i : Int) := by omega
            have i3 : (i : Int) < (n : Int) := by omega
            clear hr1 hr2 hl1 hl2 hm1 hm2 hbx hbw hbt
            go_upto_region 13 with fail
            go_cut [44] (fun s wx => s = .bool bt_ ∧ Below wr.heap.size wr wx)
            case first =>
              go_region_held3 (fun w' => w'.cell? ⟨b, off + k, none⟩ = some (.slice A1 n1 c1) ∧ w'.cell? ⟨b, off + i, none⟩ = some (.slice A2 n2 c2) ∧ Below wr.heap.size wr w')
                (first | (go_split_ands; exact ⟨hold1 hb4 ‹_›, hold1 hb4 ‹_›, (‹Below wr.heap.size wr _›).trans (hb4.mono (‹Below wr.heap.size wr _›).size)⟩) | (exact ⟨x0, y0, (Below.refl _ _).drew⟩))
                (first | (go_at_call 53; refine (HBT.out).mono ?_; rintro e w4 ⟨rfl, hw4⟩; have hb4 : Below wr.drew.heap.size wr.drew w4 := (by obtain ⟨m4, rfl⟩ := hw4; exact below_drewN (Below.refl _ _) m4); clear hw4))
              all_goals (go_wp2_with fail; go_meet; exact ⟨rfl, by go_split_ands; assumption⟩)
            case rest =>
              obtain ⟨rfl, hbz⟩ := hcut
              have HBZ := hide (HBX.out.trans (hbz.mono HBX.out.size))
              obtain ⟨g, go, y, hA3, hgb, hy, gc⟩ := (HG0.out.below HBZ.out).int_at (by rw [List.length_map]; exact HLO.out) hlk
              subst hA3
              have hlk2 : y = ((lo.getD k 0 : Nat) : Int) := by
                rw [List.getElem?_map, List.getElem?_eq_getElem (by rw [HLO.out]; exact hlk)] at hy
                simp [List.getD, List.getElem?_eq_getElem (show k < lo.length by rw [HLO.out]; exact hlk)] at hy ⊢
                exact hy.symm
              have HY := hide hlk2
              clear hlk2 hy hbz x0 y0
              cases bt_ with
              | true =>
                have HNX := hide (show last (lsOf R) (fun i => lo.getD i 0) i (k + 1) = max LA y from by
                  conv => lhs; unfold last
                  rw [if_pos HBTT.out.symm, ← HLAST.out, HY.out])
                go_wp2_with fail
                go_roundw
                case rel => exact ⟨k + 1, by omega, by go_num, by rw [HNX.out], HBZ.out⟩
                case measure => simp [intOf]; omega
              | false =>
                have HNX := hide (show last (lsOf R) (fun i => lo.getD i 0) i (k + 1) = LA from by
                  conv => lhs; unfold last
                  rw [if_neg (by rw [← HBTT.out]; exact Bool.false_ne_true), ← HLAST.out])
                go_wp2_with fail
                go_roundw
                case rel => exact ⟨k + 1, by omega, by go_num, by rw [HNX.out], HBZ.out⟩
                case measure => simp [intOf]; omega
          · obtain rfl : k = n := by omega
            obtain ⟨hto, hto25⟩ := HTO.out i hlt
            have HQ := hide hto
            rw [HLAST.out]
            obtain ⟨g, go, y, hA3, hgb, hy, gc⟩ := (HG0.out.below HBX.out).int_at (by rw [List.length_map]; exact HLO.out) hlt
            subst hA3
            have hlk2 : y = ((lo.getD i 0 : Nat) : Int) := by
              rw [List.getElem?_map, List.getElem?_eq_getElem (by rw [HLO.out]; exact hlt)] at hy
              simp [List.getD, List.getElem?_eq_getElem (show i < lo.length by rw [HLO.out]; exact hlt)] at hy ⊢
              exact hy.symm
            rw [hto] at hlk2
            obtain ⟨LA2, hLA2⟩ : ∃ z, z = last (lsOf R) (fun i => lo.getD i 0) i k := ⟨_, rfl⟩
            have hge := last_ge (ls := lsOf R) (out := fun i => lo.getD i 0) (i := i) k
            rw [← hLA2] at hlk2 hge ⊢
            rw [← hLA2] at hto
            have hLw : IntKind.i64.wrap (LA2 + 1) = LA2 + 1 := IntWalk.i64_in _ (by omega)
            have hneq2 : ((LA2 + 1 : Int) != LA2 + 1) = false := by simp
            subst hlk2
            have i2 : (0 : Int) ≤ (i : Int) := by omega
            have i3 : (i : Int) < (k : Int) := by omega
            clear hto hy hbx hbw hLA2
            go_wp2_with fail
            go_roundw
            case rel => exact ⟨i + 1, by omega, by go_num, HBX.out⟩
            case measure => simp [intOf]; omega
      · obtain rfl : i = n := by omega
        have HID := hide (pareto_ideal A i c w.heap.size R wr (HR.out.below hb0) hb0.size hn H8.out hc)
        clear hb0
        go_wp2_with fail
        refine (HID.out).mono ?_
        rintro e w5 ⟨hcase, hb5⟩
        have HB5 := hide (HB0.out.trans (hb5.mono HB0.out.size))
        have HB35 := hide (HBE.out.trans (hb5.mono HBE.out.size))
        clear hb5 HID
        rcases hcase with ⟨hal, v5, d, rfl, hown5, hidl⟩ | ⟨hna, rfl⟩
        · obtain ⟨A5, c5, rfl, hc5, -⟩ := hown5.shape
          have HIDL := hide hidl
          have HD0 := hide (Own.rd hown5 rfl)
          have HAK := hide (akn_yes hal)
          have hn0 : 0 < i := by have := hal.1; rw [HLN.out] at this; exact this
          have hd8 : d.length ≤ 8 := by rw [← hidl.len 0 hn0]; exact H8.out _ (HR.out.row_ hn0).choose_spec.choose_spec.choose_spec.choose_spec.choose_spec.2.2.2.2.2
          clear hal hown5 hidl
          go_wp2_with fail
          go_loopw [9, 10] (fun s9 s10 wr => ∃ q : Nat, q ≤ i ∧ s10 = .int .i64 q ∧ s9 = .bool (akn (lsOf R) q) ∧ Below w5.heap.size w5 wr) (fun _ s10 _ => i - (intOf s10).toNat)
          case atStart => exact ⟨0, Nat.zero_le _, rfl, (by unfold akn; rw [HLN.out]; (try simp); (try omega)), Below.refl _ _⟩
          case round =>
            obtain ⟨q, hq, rfl, rfl, hbel⟩ := hrel
            have HBQ := hide hbel
            have hbw := HB5.out.trans (hbel.mono HB5.out.size)
            by_cases hlq : q < i
            · obtain ⟨b, off, A1, n1, c1, rfl, hb, x0, hr1, hl1, hm1⟩ := (HR.out.below hbw).row_ hlq
              obtain ⟨b', off', A2, n2, c2, hA', hb', y0, hr2, hl2, hm2⟩ := (HR.out.below hbw).row_ (show 0 < i by omega)
              simp only [Option.some.injEq, Addr.mk.injEq, and_true] at hA'
              obtain ⟨rfl, rfl⟩ := hA'
              have y0 : wr.cell? ⟨b, off, none⟩ = some (.slice A2 n2 c2) := y0
              have HN1 := hide (show akn (lsOf R) (q + 1) = (akn (lsOf R) q && decide (n1 = n2)) from by rw [← hl1, ← hl2]; rfl)
              have i0 : (0 : Int) ≤ (q : Int) := by omega
              have i1 : (q : Int) < (i : Int) := by omega
              have i2 : (0 : Int) < (i : Int) := by omega
              clear hr1 hr2 hl1 hl2 hm1 hm2 hbel hbw
              generalize akn (lsOf R) q = bq at *
              cases bq with
              | false =>
                go_wp2_with fail
                go_quiet (fail)
                go_wp2_with fail
                go_roundw
                case rel => exact ⟨q + 1, by omega, by go_num, by rw [HN1.out]; rfl, below_drewN HBQ.out _⟩
                case measure => simp [intOf]; omega
              | true =>
                by_cases hnn : n1 = n2
                · subst hnn
                  have hbb : ((n1 : Int) == (n1 : Int)) = true := by simp
                  go_wp2_with fail
                  go_quiet (fail)
                  go_wp2_with fail
                  go_roundw
                  case rel => exact ⟨q + 1, by omega, by go_num, by rw [HN1.out]; simp, below_drewN HBQ.out _⟩
                  case measure => simp [intOf]; omega
                · have hbb : ((n1 : Int) == (n2 : Int)) = false := by simp; omega
                  go_wp2_with fail
                  go_quiet (fail)
                  go_wp2_with fail
                  go_roundw
                  case rel => exact ⟨q + 1, by omega, by go_num, by rw [HN1.out]; simp [hnn], below_drewN HBQ.out _⟩
                  case measure => simp [intOf]; omega
            · obtain rfl : q = i := by omega
              have HBV := hide hbw
              rw [HAK.out _ (by rw [HLN.out]; exact Nat.le_refl _)]
              clear hbel hbw
              go_wp2_with fail
              have hz5 := HB5.out.size
              go_loopw [11] (fun s11 wr => ∃ j : Nat, j ≤ q ∧ s11 = .int .i64 j ∧ Below w5.heap.size w5 wr) (fun s11 _ => q - (intOf s11).toNat)
              case atStart => exact ⟨0, Nat.zero_le _, rfl, HBQ.out⟩
              case round =>
                obtain ⟨j, hj, rfl, hbj⟩ := hrel
                have HBJ := hide hbj
                have hbw := HB5.out.trans (hbj.mono hz5)
                have HBW := hide hbw
                by_cases hlj : j < q
                · obtain ⟨b, off, A1, n1, c1, rfl, hb, x0, hr1, hl1, hm1⟩ := (HR.out.below hbw).row_ hlj
                  have hn8 : n1 ≤ 8 := by rw [← hl1]; exact H8.out _ hm1
                  have hdd := HD0.out.below hbj
                  have hr2 := hr1.mono (B' := w5.heap.size) hz5
                  have hor : d = rw_ (lsOf R) j ∨ (d ≠ rw_ (lsOf R) j ∧ bt d (rw_ (lsOf R) j) = true) := by
                    by_cases h : d = rw_ (lsOf R) j
                    · exact .inl h
                    · exact .inr ⟨h, HIDL.out.beats hlj h⟩
                  have HEQ := hide (eqInt A5 A1 d.length n1 c5 c1 _ _ d (rw_ (lsOf R) j) wr hdd hr2 (by omega) (by omega))
                  have HBT := hide (fun m => law_beats A5 A1 d.length n1 c5 c1 w5.heap.size d (rw_ (lsOf R) j) (wr.drewN m) (hdd.drewN m) (hr2.drewN m) rfl hl1 (by omega))
                  have i0 : (0 : Int) ≤ (j : Int) := by omega
                  have i1 : (j : Int) < (q : Int) := by omega
                  clear hr1 hr2 hl1 hm1 hdd hbj hbw
                  rcases hor with hor | ⟨hor, hbt⟩
                  · rw [decide_eq_true hor] at HEQ
                    clear hor
                    go_wp2_with (go_at_call 31; refine (HEQ.out).mono ?_; rintro e w6 ⟨rfl, m6, rfl⟩)
                    go_roundw
                    case rel => exact ⟨j + 1, by omega, by go_num, below_drewN HBJ.out _⟩
                    case measure => simp [intOf]; omega
                  · rw [decide_eq_false hor] at HEQ
                    rw [hbt] at HBT
                    clear hor hbt
                    have x0d : ∀ m, (wr.drewN m).cell? ⟨b, off + j, none⟩ = some (.slice A1 n1 c1) := fun m => x0
                    go_wp2_with (first | (go_at_call 31; refine (HEQ.out).mono ?_; rintro e w6 ⟨rfl, m6, rfl⟩) | (go_at_call 53; refine (HBT.out _).mono ?_; rintro e w7 ⟨rfl, m7, rfl⟩))
                    go_roundw
                    case rel => exact ⟨j + 1, by omega, by go_num, below_drewN HBJ.out _⟩
                    case measure => simp [intOf]; omega
                · obtain rfl : j = q := by omega
                  clear hbj hbw
                  go_wp2_with fail
                  go_loopw [12] (fun s12 wr => ∃ k : Nat, k ≤ d.length ∧ s12 = .int .i64 k ∧ Below w5.heap.size w5 wr) (fun s12 _ => d.length - (intOf s12).toNat)
                  case atStart => exact ⟨0, Nat.zero_le _, rfl, HBJ.out⟩
                  case round =>
                    obtain ⟨k, hk, rfl, hbk⟩ := hrel
                    have HBK := hide hbk
                    by_cases hlk : k < d.length
                    · obtain ⟨x, hx⟩ : ∃ x, d[k]? = some x := ⟨_, List.getElem?_eq_getElem hlk⟩
                      have HX := hide hx
                      have HSM := hide (sm_yes (HIDL.out.some_ k x hx))
                      clear hx hbk
                      go_wp2_with fail
                      go_loopw [13, 14] (fun s13 s14 wr => ∃ t : Nat, t ≤ j ∧ s14 = .int .i64 t ∧ s13 = .bool (sm (lsOf R) k x t) ∧ Below w5.heap.size w5 wr) (fun _ s14 _ => j - (intOf s14).toNat)
                      case atStart => exact ⟨0, Nat.zero_le _, rfl, rfl, HBK.out⟩
                      case round =>
                        obtain ⟨t, ht, rfl, rfl, hbt⟩ := hrel
                        have HBT := hide hbt
                        have hbw := HB5.out.trans (hbt.mono hz5)
                        by_cases hlt : t < j
                        · obtain ⟨b, off, A1, n1, c1, rfl, hb, x0, hr1, hl1, hm1⟩ := (HR.out.below hbw).row_ hlt
                          have hn1 : n1 = d.length := by rw [← hl1]; exact HIDL.out.len t hlt
                          obtain ⟨b2, o2, y, rfl, hb2, hy, y0⟩ := hr1.int_at hl1 (show k < n1 by omega)
                          obtain ⟨b3, o3, x', rfl, hb3, hx', z0⟩ := (HD0.out.below hbt).int_at rfl hlk
                          rw [HX.out] at hx'
                          simp only [Option.some.injEq] at hx'
                          subst hx'
                          have HN1 := hide (show sm (lsOf R) k x (t + 1) = (sm (lsOf R) k x t || decide (y = x)) from by
                            conv => lhs; unfold sm
                            rw [hy]; simp)
                          have i0 : (0 : Int) ≤ (t : Int) := by omega
                          have i1 : (t : Int) < (j : Int) := by omega
                          have i2 : (0 : Int) ≤ (k : Int) := by omega
                          have i3 : (k : Int) < (d.length : Int) := by omega
                          have i4 : (k : Int) < (n1 : Int) := by omega
                          clear hr1 hl1 hm1 hy hbt hbw hn1
                          generalize sm (lsOf R) k x t = bs at *
                          cases bs with
                          | true =>
                            go_wp2_with fail
                            go_quiet (fail)
                            go_wp2_with fail
                            go_roundw
                            case rel => exact ⟨t + 1, by omega, by go_num, by rw [HN1.out]; rfl, below_drewN HBT.out _⟩
                            case measure => simp [intOf]; omega
                          | false =>
                            by_cases hyx : y = x
                            · subst hyx
                              have hbb : (y == y) = true := by simp
                              go_wp2_with fail
                              go_quiet (fail)
                              go_wp2_with fail
                              go_roundw
                              case rel => exact ⟨t + 1, by omega, by go_num, by rw [HN1.out]; simp, below_drewN HBT.out _⟩
                              case measure => simp [intOf]; omega
                            · have hbb : (y == x) = false := by simp [hyx]
                              go_wp2_with fail
                              go_quiet (fail)
                              go_wp2_with fail
                              go_roundw
                              case rel => exact ⟨t + 1, by omega, by go_num, by rw [HN1.out]; simp [hyx], below_drewN HBT.out _⟩
                              case measure => simp [intOf]; omega
                        · obtain rfl : t = j := by omega
                          rw [HSM.out]
                          clear hbt hbw
                          go_wp2_with fail
                          go_roundw
                          case rel => exact ⟨k + 1, by omega, by go_num, HBT.out⟩
                          case measure => simp [intOf]; omega
                    · obtain rfl : k = d.length := by omega
                      have hbw := HB5.out.trans (hbk.mono hz5)
                      have HBW := hide hbw
                      clear hbk hbw
                      go_wp2_with (go_at_call 56; refine (pareto_alive _).mono ?_; rintro e w9 ⟨rfl, hb9⟩)
                      go_ret
                      exact ⟨rfl, then_ HBW.out hb9 (Nat.le_refl _)⟩
        · have HAK := hide (show akn (lsOf R) i = false from by
            cases h : akn (lsOf R) i with
            | false => rfl
            | true => rw [← HLN.out] at h; exact absurd (akn_no h) hna)
          clear hna
          go_wp2_with fail
          go_loopw [9, 10] (fun s9 s10 wr => ∃ q : Nat, q ≤ i ∧ s10 = .int .i64 q ∧ s9 = .bool (akn (lsOf R) q) ∧ Below w5.heap.size w5 wr) (fun _ s10 _ => i - (intOf s10).toNat)
          case atStart => exact ⟨0, Nat.zero_le _, rfl, (by unfold akn; rw [HLN.out]; (try simp); (try omega)), Below.refl _ _⟩
          case round =>
            obtain ⟨q, hq, rfl, rfl, hbel⟩ := hrel
            have HBQ := hide hbel
            have hbw := HB5.out.trans (hbel.mono HB5.out.size)
            by_cases hlq : q < i
            · obtain ⟨b, off, A1, n1, c1, rfl, hb, x0, hr1, hl1, hm1⟩ := (HR.out.below hbw).row_ hlq
              obtain ⟨b', off', A2, n2, c2, hA', hb', y0, hr2, hl2, hm2⟩ := (HR.out.below hbw).row_ (show 0 < i by omega)
              simp only [Option.some.injEq, Addr.mk.injEq, and_true] at hA'
              obtain ⟨rfl, rfl⟩ := hA'
              have y0 : wr.cell? ⟨b, off, none⟩ = some (.slice A2 n2 c2) := y0
              have HN1 := hide (show akn (lsOf R) (q + 1) = (akn (lsOf R) q && decide (n1 = n2)) from by rw [← hl1, ← hl2]; rfl)
              have i0 : (0 : Int) ≤ (q : Int) := by omega
              have i1 : (q : Int) < (i : Int) := by omega
              have i2 : (0 : Int) < (i : Int) := by omega
              clear hr1 hr2 hl1 hl2 hm1 hm2 hbel hbw
              generalize akn (lsOf R) q = bq at *
              cases bq with
              | false =>
                go_wp2_with fail
                go_quiet (fail)
                go_wp2_with fail
                go_roundw
                case rel => exact ⟨q + 1, by omega, by go_num, by rw [HN1.out]; rfl, below_drewN HBQ.out _⟩
                case measure => simp [intOf]; omega
              | true =>
                by_cases hnn : n1 = n2
                · subst hnn
                  have hbb : ((n1 : Int) == (n1 : Int)) = true := by simp
                  go_wp2_with fail
                  go_quiet (fail)
                  go_wp2_with fail
                  go_roundw
                  case rel => exact ⟨q + 1, by omega, by go_num, by rw [HN1.out]; simp, below_drewN HBQ.out _⟩
                  case measure => simp [intOf]; omega
                · have hbb : ((n1 : Int) == (n2 : Int)) = false := by simp; omega
                  go_wp2_with fail
                  go_quiet (fail)
                  go_wp2_with fail
                  go_roundw
                  case rel => exact ⟨q + 1, by omega, by go_num, by rw [HN1.out]; simp [hnn], below_drewN HBQ.out _⟩
                  case measure => simp [intOf]; omega
            · obtain rfl : q = i := by omega
              have HBV := hide hbw
              rw [HAK.out]
              clear hbel hbw
              go_wp2_with fail
              go_loopw [11] (fun s11 wr2 => s11 = .int .i64 0 ∧ wr2 = wr) (fun _ _ => 0)
              case atStart => exact ⟨rfl, rfl⟩
              case round =>
                obtain ⟨rfl, rfl⟩ := hrel
                rcases Nat.eq_zero_or_pos q with hq0 | hq0
                · have hq1 : decide ((0 : Int) < (q : Int)) = false := by simp; omega
                  have hq2 : ¬ 0 < q := by omega
                  clear hq0
                  go_wp2_with fail
                  go_loopw [12] (fun s12 wr3 => s12 = .int .i64 0 ∧ wr3 = wr) (fun _ _ => 0)
                  case atStart => exact ⟨rfl, rfl⟩
                  case round =>
                    obtain ⟨rfl, rfl⟩ := hrel
                    go_wp2_with (go_at_call 56; refine (pareto_alive _).mono ?_; rintro e w9 ⟨rfl, hb9⟩)
                    go_ret
                    exact ⟨rfl, then_ HBV.out hb9 (Nat.le_refl _)⟩
                · have hq1 : (0 : Int) < (q : Int) := by omega
                  go_wp2_with fail
                  go_loopw [12] (fun s12 wr3 => s12 = .int .i64 0 ∧ wr3 = wr) (fun _ _ => 0)
                  case atStart => exact ⟨rfl, rfl⟩
                  case round =>
                    obtain ⟨rfl, rfl⟩ := hrel
                    go_wp2_with (go_at_call 56; refine (pareto_alive _).mono ?_; rintro e w9 ⟨rfl, hb9⟩)
                    go_ret
                    exact ⟨rfl, then_ HBV.out hb9 (Nat.le_refl _)⟩
theorem arg_rowsc {H : Type} {enc : TypeId × Value → H} {w : World} {base : Nat} {spare : Nat → Bool} {held : Bool} {r : Reach} {b0 : Nat} {v : Value} {d : DataW H} {ps : List MemPlace}
    (hv : Value.okWide Try.prog w r b0 76 v) (hd : DataW.Trod enc Try.prog w base spare held 76 v d ps) :
    ∃ (A : Option Addr) (n c : Nat) (R : List RowR), v = .slice A n c ∧ n ≤ c ∧ Rws w w.heap.size A n R := by
  obtain ⟨A, n, c, R, rfl, hl, hcc, _, hok, hr⟩ := arg_list (f := fun r : RowR => [r.v]) (m := 1) (fun _ => rfl) (by omega) (ok := fun r => Rd w w.heap.size 1 r.A r.n (r.l.map (Value.int .i64)) ∧ r.l.length = r.n) Try.underlying76 (by kernel_rfl)
    (fun n cs' y hy => by
      obtain ⟨A, n, c, l, e0, hl, hc, _, _, hr⟩ := open_list (f := fun z => [Value.int .i64 z]) (m := 1) (fun _ => rfl) (by omega) (ok := fun z => (Lit.int .i64 z).wf = true) Try.underlying35 (by kernel_rfl)
        (fun n cs' y hy => by obtain ⟨z, h1, _, h2⟩ := DataW.trod_int Try.underlying3 hy; exact ⟨z, h1, h2⟩) hy
      subst e0
      rw [map_flat] at hr
      exact ⟨⟨A, n, c, l⟩, rfl, hr, hl⟩) hv hd
  have e : R.flatMap (fun r => [r.v]) = R.map RowR.v := rv_map R
  rw [e] at hr
  exact ⟨A, n, c, R, rfl, hcc, hr, hl, hok⟩

set_option maxRecDepth 100000 in
theorem paretoLayers_lifted (os : Os) (started : os.Started) (H : Type) (enc : TypeId × Value → H) :
    ReturnsInHanded {} Try.checked os 14 .any (Rows.paretoLayersSpec.pre6 enc Try.prog Try.f14 [] false) (Rows.paretoLayersSpec.post enc Try.prog Try.f14 false true false false) := by
  refine law_lifted (C := Try.checked) Try.own started (by kernel_rfl) Try.func14
    (ChangeSpec.witness6 (enc := enc) (C := Try.checked) false ⟨#[], #[.slice none 0 0], []⟩ 8 (by kernel_rfl) (by kernel_rfl) (by kernel_rfl) (by kernel_rfl))
    Try.laidOut (show ∀ t ∈ [76], Try.prog.readableRec t = true ∧ t < Try.prog.types.size from by
      intro t ht; simp only [List.mem_cons, List.not_mem_nil, or_false] at ht; subst ht <;> exact ⟨by kernel_rfl, of_decide_eq_true (by kernel_rfl)⟩) (tb := 4) (by kernel_rfl) Try.underlying4 rfl (fun ds hd => ?_) ?_
  · match ds, hd with
    | [_], _ => rfl
  · intro W base args ds p hval hA
    have hval' : ∀ (j : Nat) t v, Try.f14.params[j]? = some t → args[j]? = some v → Value.okWide Try.prog W .any base t v := hval
    rw [Try.params14] at hA hval'
    obtain ⟨v0, d0, rfl, rfl, h0⟩ := trodAll_one hA
    obtain ⟨A, n, c, R, rfl, hc, hr⟩ := arg_rowsc (hval' 0 _ _ rfl rfl) h0
    exact paretoLayers_walk A n c R W hr hc

theorem paretoLayers_holds : Rows.ParetoLayersSaid :=
  OpenClaim.holds_of_wide 14 Try.f14 rfl rfl rfl rfl rfl rfl rfl ⟨rfl, rfl, rfl, rfl, rfl⟩ rfl rfl rfl rfl rfl (by kernel_rfl) Try.func14 (by kernel_rfl)
    (of_decide_eq_true (by kernel_rfl)) (by unfold Func.isWrapper; first | (rw [if_pos (by decide +kernel)]; kernel_rfl) | (rw [if_neg (by decide +kernel)]; exact ⟨rfl, rfl⟩))
    (fun os started H enc _ => paretoLayers_lifted os started H enc)
#print axioms paretoLayers_holds
end Go.Proofs.Ytkgkilogjodccaa
