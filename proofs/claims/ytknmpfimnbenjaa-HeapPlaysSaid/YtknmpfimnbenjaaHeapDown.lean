/-
  The walk of the heap's down: from a heap but for one place, a heap.
-/
import Derived.Test.YtknmpfimnbenjaaHeap
import Derived.Deep.DeepCutAuto
namespace Go.Proofs.Ytknmpfimnbenjaa
open Go.RowKit HB HeapP
set_option linter.unusedVariables false
set_option linter.unusedSimpArgs false
namespace HeapP
/-- m is the least of the place k and its children ahead of c -/
def Least (L : List En) (k c m : Nat) : Prop := (m = k ∨ (2 * k + 1 ≤ m ∧ m < c ∧ m < L.length)) ∧ ∀ y, L[m]? = some y → ∀ c' z, (c' = k ∨ (2 * k + 1 ≤ c' ∧ c' < c)) → L[c']? = some z → le y z
theorem Least.start (L : List En) (k : Nat) : Least L k (2 * k + 1) k := ⟨.inl rfl, fun y hy c' z hc hz => by
  obtain rfl : c' = k := by omega
  rw [hy] at hz; injection hz with hz; subst hz; exact le_refl _⟩
theorem Least.take {L : List En} {k c m : Nat} {x y : En} (h : Least L k c m) (hc : 2 * k + 1 ≤ c) (hx : L[c]? = some x) (hy : L[m]? = some y) (hlt : lt x y = true) : Least L k (c + 1) c := by
  refine ⟨.inr ⟨hc, by omega, (List.getElem?_eq_some_iff.1 hx).1⟩, fun x' hx' c' z hc' hz => ?_⟩
  rw [hx] at hx'; injection hx' with hx'; subst hx'
  by_cases he : c' = c
  · subst he; rw [hx] at hz; injection hz with hz; subst hz; exact le_refl _
  · exact le_trans (le_of_lt hlt) (h.2 y hy c' z (by omega) hz)
theorem Least.keep {L : List En} {k c m : Nat} {x y : En} (h : Least L k c m) (hx : L[c]? = some x) (hy : L[m]? = some y) (hlt : lt x y = false) : Least L k (c + 1) m := by
  refine ⟨by have := h.1; omega, fun y' hy' c' z hc' hz => ?_⟩
  rw [hy] at hy'; injection hy' with hy'; subst hy'
  by_cases he : c' = c
  · subst he; rw [hx] at hz; injection hz with hz; subst hz; exact hlt
  · exact h.2 y hy c' z (by omega) hz
end HeapP
set_option maxRecDepth 100000 in
set_option maxHeartbeats 4000000 in
theorem heap_down (p g i s n : Nat) (L : List En) (w : World) (h : Hp w p g L) (hd : Down L s i) (hs : s ≤ i) (hl : L.length = n) (hn : n ≤ 1000000) (hi : i ≤ 1000000) :
    Calls Try.prog 61 #[.pointer (some ⟨p, 0, none⟩), .int .i64 i] w fun e w' => e = .returned (.tuple #[]) ∧ ∃ L', Hp w' p g L' ∧ From L' s ∧ L'.Perm L ∧ Only p g w w' := by
  have HH := hide h
  have HD := hide hd
  have Hl := hide hl
  clear h hd hl
  go_enter Try.func61, Try.ntmps61
  go_wp2_with fail
  go_loopw [1] (fun si wr => ∃ (k : Nat) (L' : List En), si = .int .i64 k ∧ s ≤ k ∧ k ≤ 1000000 ∧ Hp wr p g L' ∧ Down L' s k ∧ L'.Perm L ∧ Only p g w wr) (fun si _ => n - (intOf si).toNat)
  case atStart => exact ⟨i, L, rfl, hs, hi, HH.out, HD.out, List.Perm.refl _, Only.refl _ _ _⟩
  case round =>
    obtain ⟨k, L', rfl, hsk, hk, hp', hd', hpm, hon⟩ := hrel
    have hl' := hpm.length_eq.trans Hl.out
    have HP := hide hp'
    have HD' := hide hd'
    have HPM := hide hpm
    have HL := hide hl'
    obtain ⟨A, cc, cp, hcc⟩ := hp'.sl
    rw [hl'] at cp hcc
    have HON := hide hon
    have HLS := hide (Least.start L' k)
    clear hp' hd' hpm hl' hon HH HD
    go_wp2_with fail
    go_loopw [4, 5] (fun s4 s5 wx => ∃ (m c : Nat), s4 = .int .i64 m ∧ s5 = .int .i64 c ∧ 2 * k + 1 ≤ c ∧ c ≤ 2 * k + 3 ∧ Least L' k c m ∧ Below wr.heap.size wr wx) (fun _ s5 _ => 2 * k + 3 - (intOf s5).toNat)
    case atStart => exact ⟨k, 2 * k + 1, rfl, by go_num, by omega, by omega, HLS.out, Below.refl _ _⟩
    case round =>
      obtain ⟨m, c, rfl, rfl, hc1, hc2, hls, hbel⟩ := hrel
      have HLE := hide hls
      have HPX := hide (HP.out.below (hbel.mono (Nat.le_refl _)))
      have HBX := hide hbel
      have hm1 : m = k ∨ (2 * k + 1 ≤ m ∧ m < c ∧ m < n) := by have := hls.1; rw [HL.out] at this; exact this
      have cp2 := hold1 hbel cp
      clear hls hbel cp
      by_cases hcn : c ≤ 2 * k + 2 ∧ c < n
      · obtain ⟨h1, h2⟩ := hcn
        obtain ⟨cc2, cp, hcc2, hgp, hown⟩ := HPX.out.at_ (by rw [HL.out]; omega)
        rw [HL.out] at cp hcc2 hown
        obtain ⟨x, hx⟩ : ∃ x, L'[c]? = some x := ⟨_, List.getElem?_eq_getElem (by rw [HL.out]; exact h2)⟩
        obtain ⟨y, hy⟩ : ∃ y, L'[m]? = some y := ⟨_, List.getElem?_eq_getElem (by rw [HL.out]; omega)⟩
        obtain ⟨x0, x1, x2, -, -, -⟩ := hown.ent_at HL.out hx
        obtain ⟨y0, y1, y2, -, -, -⟩ := hown.ent_at HL.out hy
        have HT := hide (fun h => HLE.out.take hc1 hx hy h)
        have HK := hide (fun h => HLE.out.keep hx hy h)
        have HLS2 := hide (fun w => heap_less x y w)
        clear cp2 hown hx hy hcc
        have i0 : (0 : Int) ≤ (c : Int) := by omega
        have i1 : (c : Int) ≤ 2 * (k : Int) + 2 := by omega
        have i2 : (c : Int) < (n : Int) := by omega
        have i3 : (0 : Int) ≤ (m : Int) := by omega
        have i4 : (m : Int) < (n : Int) := by omega
        go_upto_region 4 with fail
        go_cut [40] (fun s wx => s = .bool (lt x y) ∧ Below wr.heap.size wr wx)
        case first =>
          go_region_held3 (fun w' => w'.cell? ⟨p, 0, none⟩ = some (.slice (some ⟨g, 0, none⟩) n cc2) ∧ w'.cell? ⟨g, c * 3, none⟩ = some (.int .i64 x.t) ∧ w'.cell? ⟨g, c * 3 + 1, none⟩ = some (.int .i64 x.k) ∧ w'.cell? ⟨g, c * 3 + 2, none⟩ = some (.int .i64 x.i) ∧ w'.cell? ⟨g, m * 3, none⟩ = some (.int .i64 y.t) ∧ w'.cell? ⟨g, m * 3 + 1, none⟩ = some (.int .i64 y.k) ∧ w'.cell? ⟨g, m * 3 + 2, none⟩ = some (.int .i64 y.i) ∧ Below wr.heap.size wr w')
            (first | (go_split_ands; exact ⟨hold1 hb4 ‹_›, hold1 hb4 ‹_›, hold1 hb4 ‹_›, hold1 hb4 ‹_›, hold1 hb4 ‹_›, hold1 hb4 ‹_›, hold1 hb4 ‹_›, (‹Below wr.heap.size wr _›).trans (hb4.mono (‹Below wr.heap.size wr _›).size)⟩) | (exact ⟨cp, x0, x1, x2, y0, y1, y2, (Below.refl _ _).drew⟩))
            (first | (go_at_call 44; refine (HLS2.out _).mono ?_; rintro e w4 ⟨rfl, hb4⟩))
          all_goals (go_wp2_with fail; go_meet; exact ⟨rfl, by go_split_ands; assumption⟩)
        case rest =>
          obtain ⟨rfl, hbw⟩ := hcut
          have HBW := hide (HBX.out.trans (hbw.mono HBX.out.size))
          cases hlt : lt x y with
          | true =>
            have HT2 := hide (HT.out hlt)
            clear hbw hlt
            go_wp2_with fail
            go_roundw
            case rel => exact ⟨c, c + 1, rfl, by go_num, by omega, by omega, HT2.out, HBW.out⟩
            case measure => simp [intOf]; omega
          | false =>
            have HT2 := hide (HK.out hlt)
            clear hbw hlt
            go_wp2_with fail
            go_roundw
            case rel => exact ⟨m, c + 1, rfl, by go_num, by omega, by omega, HT2.out, HBW.out⟩
            case measure => simp [intOf]; omega
      · have HE := hide (show ∀ y, L'[m]? = some y → ∀ c' z, (c' = k ∨ c' = 2 * k + 1 ∨ c' = 2 * k + 2) → L'[c']? = some z → le y z from fun y hy c' z hc' hz => HLE.out.2 y hy c' z (by have := (List.getElem?_eq_some_iff.1 hz).1; rw [HL.out] at this; omega) hz)
        clear hcc
        go_upto_region 2 with fail
        go_cut [23] (fun s wx => s = .bool false ∧ wx = wr)
        case first =>
          by_cases hck : c ≤ 2 * k + 2
          · have i1 : (c : Int) ≤ 2 * (k : Int) + 2 := by omega
            have i2 : decide ((c : Int) < (n : Int)) = false := by simp; omega
            go_wp2_with fail
            go_meet
            exact ⟨by simp; omega, rfl⟩
          · have i1 : decide ((c : Int) ≤ 2 * (k : Int) + 2) = false := by simp; omega
            go_wp2_with fail
            go_meet
            exact ⟨rfl, rfl⟩
        case rest =>
          obtain ⟨rfl, rfl⟩ := hcut
          clear cp2 HLE
          by_cases hmk : m = k
          · subst hmk
            go_wp2_with fail
            (try simp only [Exit.inBlock, Exit.then]); refine bodyPost_ret (results_none rfl _ _ _) rfl ?_
            exact ⟨rfl, L', HPX.out, down_end HD'.out (fun c x y hc hx hy => HE.out y hy c x (by omega) hx), HPM.out, HON.out.then_ HBX.out⟩
          · have hmk2 : ((m : Int) == (k : Int)) = false := by simp; omega
            obtain ⟨cc2, cp, hcc2, hgp, hown⟩ := HPX.out.at_ (by rw [HL.out]; omega)
            rw [HL.out] at cp hcc2 hown
            obtain ⟨x, hx⟩ : ∃ x, L'[k]? = some x := ⟨_, List.getElem?_eq_getElem (by rw [HL.out]; omega)⟩
            obtain ⟨y, hy⟩ : ∃ y, L'[m]? = some y := ⟨_, List.getElem?_eq_getElem (by rw [HL.out]; omega)⟩
            obtain ⟨x0, x1, x2, f0, f1, f2⟩ := hown.ent_at HL.out hx
            obtain ⟨y0, y1, y2, g0, g1, g2⟩ := hown.ent_at HL.out hy
            have HX := hide hx
            have HY := hide hy
            have i0 : (0 : Int) ≤ (k : Int) := by omega
            have i1 : (k : Int) < (n : Int) := by omega
            have i3 : (0 : Int) ≤ (m : Int) := by omega
            have i4 : (m : Int) < (n : Int) := by omega
            have HSW := hide (HPX.out.swap hx hy).drew
            have HSO := hide ((((((((Only.refl p g wc).set (a := ⟨g, k * 3, none⟩) (.inr ⟨rfl, hgp⟩) (.int .i64 y.t)).set (a := ⟨g, k * 3 + 1, none⟩) (.inr ⟨rfl, hgp⟩) (.int .i64 y.k)).set (a := ⟨g, k * 3 + 2, none⟩) (.inr ⟨rfl, hgp⟩) (.int .i64 y.i)).set (a := ⟨g, m * 3, none⟩) (.inr ⟨rfl, hgp⟩) (.int .i64 x.t)).set (a := ⟨g, m * 3 + 1, none⟩) (.inr ⟨rfl, hgp⟩) (.int .i64 x.k)).set (a := ⟨g, m * 3 + 2, none⟩) (.inr ⟨rfl, hgp⟩) (.int .i64 x.i)).drew)
            clear hown hx hy
            go_wp2_with fail
            go_region
            go_wp2_with fail
            go_roundw
            case rel => exact ⟨m, sw L' k m x y, rfl, by omega, by omega, HSW.out, down_step HD'.out hsk (by omega) HX.out HY.out (HE.out y HY.out k x (.inl rfl) HX.out) (fun c' z hc' hz => HE.out y HY.out c' z (by omega) hz), (sw_perm HX.out HY.out (by omega)).trans HPM.out, (HON.out.then_ HBX.out).trans HSO.out (.inl rfl)⟩
            case measure => simp [intOf]; omega
end Go.Proofs.Ytknmpfimnbenjaa
