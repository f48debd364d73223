/-
  The walk of the heap's Push.
-/
import Derived.Test.YtknmpfimnbenjaaHeapPop
import Derived.Deep.AppendLies
import Derived.Deep.RegionLaw
namespace Go.Proofs.Ytknmpfimnbenjaa
open Go.RowKit HB HeapP
set_option linter.unusedVariables false
set_option linter.unusedSimpArgs false
namespace HB
theorem Hp.parts {w : World} {p g : Nat} {L : List En} (h : Hp w p g L) : ∃ v, w.cell? ⟨p, 0, none⟩ = some v ∧ w.frozen? ⟨p, 0, none⟩ = false ∧ p < w.heap.size ∧ w.ownsRow 0 70 3 v L.length (L.flatMap ent) ∧ (∀ k, v.ownBlock = some k → k = g ∧ g ≠ p) := by
  obtain ⟨v, h1, h2, h3, h4, h5⟩ := h
  refine ⟨v, h1, h2, h3, h4, fun k hk => ?_⟩
  rcases h5 with ⟨rfl, _⟩ | ⟨c, rfl, _, h8, _⟩
  · simp [Value.ownBlock] at hk
  · simp [Value.ownBlock] at hk
    exact ⟨hk.symm, h8⟩
theorem Hp.pushed {w w1 : World} {p g g' n cap : Nat} {L : List En} {e : En} {v : Value} (hp : p < w.heap.size) (hc : w.cell? ⟨p, 0, none⟩ = some v) (hf : w.frozen? ⟨p, 0, none⟩ = false) (hv : ∀ k, v.ownBlock = some k → k = g ∧ g ≠ p) (hn : L.length = n)
    (k1 : w1.ownsRow 0 70 3 (.slice (some ⟨g', 0, none⟩) (n + 1) cap) (n + 1) (L.flatMap ent ++ ent e)) (k2 : w.grownBy w1 v.ownBlock) (k3 : v.ownBlock = some g' ∨ g' = w.heap.size) (k4 : g' < w1.heap.size) :
    Hp (w1.setCell ⟨p, 0, none⟩ (.slice (some ⟨g', 0, none⟩) (n + 1) cap)) p g' (L ++ [e]) ∧ Only p g w (w1.setCell ⟨p, 0, none⟩ (.slice (some ⟨g', 0, none⟩) (n + 1) cap)) ∧ (g' = g ∨ w.heap.size ≤ g') ∧ w1.cell? ⟨p, 0, none⟩ = some v ∧ w1.frozen? ⟨p, 0, none⟩ = false := by
  have hgp : g' ≠ p := by
    rcases k3 with k3 | k3
    · obtain ⟨a, b⟩ := hv _ k3; omega
    · omega
  have hblk : w1.heap[p]? = w.heap[p]? := k2.block p hp (fun h => by
    obtain ⟨a, b⟩ := hv p h.symm; exact b a.symm)
  have hc1 : w1.cell? ⟨p, 0, none⟩ = some v := by rw [World.cell?_of_block (w := w) (a := ⟨p, 0, none⟩) hblk]; exact hc
  have hf1 : w1.frozen? ⟨p, 0, none⟩ = false := by rw [World.frozen?_of_block (w := w) (a := ⟨p, 0, none⟩) hblk]; exact hf
  have hlen : (L ++ [e]).length = n + 1 := by simp [hn]
  refine ⟨⟨_, World.cell?_setCell_same w1 _ _ hc1, ?_, by simpa using Nat.lt_of_lt_of_le hp k2.size, ?_, .inr ⟨cap, by rw [hlen], ?_, hgp, by simpa using k4⟩⟩, ?_, ?_, hc1, hf1⟩
  · rw [World.frozen?_setCell]; exact hf1
  · have : Own w1 0 70 3 ent (.slice (some ⟨g', 0, none⟩) (n + 1) cap) (L ++ [e]) := by
      show w1.ownsRow _ _ _ _ (L ++ [e]).length ((L ++ [e]).flatMap ent)
      rw [hlen]; simpa using k1
    refine this.other fun b m c hh => ?_
    simp at hh
    obtain ⟨rfl, _⟩ := hh
    exact Below.heap_setCell _ _ _ _ hgp
  · rw [hlen]
    rcases k1.2 with ⟨hh, _⟩ | ⟨_, cap', _, hh, _, _, h7, _⟩
    · simp at hh
    · simp at hh; omega
  · refine Only.set (p := p) (g := g) ⟨k2.os, k2.tape, k2.output, k2.size, fun k hk h1 h2 => k2.block k hk fun h => ?_, fun _ o _ => rest_block hblk⟩ (.inl rfl) _
    obtain ⟨a, b⟩ := hv k h.symm
    exact h2 a
  · rcases k3 with k3 | k3
    · exact .inl (hv _ k3).1
    · exact .inr (Nat.le_of_eq k3.symm)
end HB
set_option maxRecDepth 100000 in
set_option maxHeartbeats 4000000 in
theorem heap_push (p g n : Nat) (L : List En) (a : En) (w : World) (h : Hp w p g L) (hh : IsHeap L) (hl : L.length = n) (hn : n ≤ 1000000) :
    Calls Try.prog 65 #[.pointer (some ⟨p, 0, none⟩), .agg #[.int .i64 a.t, .int .i64 a.k, .int .i64 a.i]] w fun e w' => e = .returned (.tuple #[]) ∧ ∃ g' L', Hp w' p g' L' ∧ IsHeap L' ∧ L'.Perm (a :: L) ∧ Only p g w w' ∧ (g' = g ∨ w.heap.size ≤ g') := by
  have HH := hide h
  have HI := hide hh
  have Hl := hide hl
  have hpl : p < w.heap.size := by obtain ⟨_, _, _, h3, _⟩ := h; exact h3
  clear h hh hl
  go_enter Try.func65, Try.ntmps65
  go_upto_region 1 with fail
  have HB0 := hide ((Below.refl w.heap.size w).alloc (Nat.le_refl _) (.cells #[.int .i64 a.t, .int .i64 a.k, .int .i64 a.i] 70))
  have HR := hide (Trio.new w 70 (.int .i64 a.t) (.int .i64 a.k) (.int .i64 a.i))
  have HP := hide (HH.out.below HB0.out)
  generalize hr : w.heap.size = r at *
  generalize w.alloc (.cells #[.int .i64 a.t, .int .i64 a.k, .int .i64 a.i] 70) = w0 at *
  obtain ⟨v, cp, fp, hp0, hown, hv⟩ := HP.out.parts
  rw [Hl.out] at hown
  obtain ⟨r0, r1, r2, f0, f1, f2, hr0⟩ := HR.out
  have HO := hide hown
  have HV := hide hv
  have CP := hide cp
  have FP := hide fp
  clear hown hv
  obtain ⟨inf, HINF⟩ : ∃ i, Hid (Try.prog.info? 70 = some i ∧ i.zero = some (.agg #[.int .i64 0, .int .i64 0, .int .i64 0]) ∧ i.size = 3 ∧ i.bytes = 24) := by
    obtain ⟨i, h1, h2, h3, h4⟩ := info_parts Ent.info
    exact ⟨i, h1, h2, h3, h4⟩
  go_cut [] (fun wx => ∃ g' , Hp wx p g' (L ++ [a]) ∧ Only p g w0 wx ∧ (g' = g ∨ r ≤ g'))
  case first =>
    go_region_law (first | (refine step_append_lies _ rfl _ _ 64 rfl 0 70 inf _ 3 24 Try.underlying64 HINF.out.1 HINF.out.2.1 HINF.out.2.2.1 HINF.out.2.2.2 rfl (by omega) v n (L.flatMap ent) rfl ((HO.out.drew).alloc _) ⟨_, 0, none⟩ 1 1 (ent a) rfl rfl ?_ (by simp [Value.oneCell']) (by omega) (by simp only [maxLen]; omega) (by omega) (Nat.zero_le _) _ rfl ?_; (exact ent_new _ _ _ _ _ _ rfl); intro g' cap w1 k1 k2 k3 k4; have hb := (Below.refl w0.heap.size w0).drew.alloc (Nat.le_refl _) (.cells #[.int .i64 a.t, .int .i64 a.k, .int .i64 a.i] 70); obtain ⟨j1, j2, j3, j4, j5⟩ := Hp.pushed (Nat.lt_of_lt_of_le hp0 hb.size) (hold1 hb CP.out) ((hb.frozen hp0).trans FP.out) HV.out Hl.out k1 k2 k3 k4; have J1 := hide j1; have J2 := hide ((Only.of_below hb).trans j2 (.inl rfl)); clear k1 k2 j1 j2))
    all_goals (go_wp2_with fail; go_meet; exact ⟨g', J1.out, J2.out, (by rcases j3 with j | j; exact .inl j; right; simp at j; omega)⟩)
  case rest =>
    obtain ⟨g', hp1, ho1, hg1⟩ := hcut
    have HG1 := hide hg1
    have HO1 := hide ((Only.of_below (p := p) (g := g) (by rw [← hr] at *; exact HB0.out)).trans ho1 (.inl rfl))
    have HU := hide (up_start HI.out a)
    rw [Hl.out] at HU
    have hl1 : (L ++ [a]).length = n + 1 := by simp [Hl.out]
    have HPM := hide (show (L ++ [a]).Perm (a :: L) from List.perm_append_comm (l₁ := L) (l₂ := [a]))
    have HP1 := hide hp1
    obtain ⟨c1, cp1, hc1, hgp1, _⟩ := hp1.at_ (by omega)
    rw [hl1] at cp1 hc1
    have HL1 := hide hl1
    clear HO HV CP FP HP HH HI HR HB0 cp fp r0 r1 r2 f0 f1 f2 hp1 ho1 hg1 hl1 HINF Hl hp0 hr0
    generalize L ++ [a] = L1 at *
    go_wp2_with fail
    go_loopw [4] (fun si wr => ∃ (k : Nat) (L' : List En), si = .int .i64 k ∧ k ≤ n ∧ Hp wr p g' L' ∧ Up L' k ∧ L'.Perm L1 ∧ Only p g' wc wr) (fun si _ => (intOf si).toNat)
    case atStart => exact ⟨n, L1, by go_num, Nat.le_refl _, HP1.out, HU.out, List.Perm.refl _, Only.refl _ _ _⟩
    case round =>
      obtain ⟨k, L', rfl, hk, hp', hu', hpm, hon⟩ := hrel
      have hl' := hpm.length_eq.trans HL1.out
      have HL := hide hl'
      have HP := hide hp'
      have HUU := hide hu'
      have HM := hide hpm
      have HON := hide hon
      clear hu' hpm hon hl' cp1 hc1 hgp1
      by_cases hk0 : k = 0
      · subst hk0
        go_wp2_with fail
        go_quiet (fail)
        go_wp2_with fail
        go_end0
        have hbn : ∀ q, Below wr.heap.size wr (wr.drewN q) := fun q => ⟨rfl, rfl, rfl, Nat.le_refl _, fun _ _ => rfl⟩
        refine ⟨rfl, g', L', HP.out.below (hbn _), up_end HUU.out (.inl rfl), HM.out.trans HPM.out, (HO1.out.trans HON.out ?_).then_ (hbn _), ?_⟩
        · rw [hr]; exact HG1.out
        · rw [hr]; exact HG1.out
      · obtain ⟨cc, cp, hcc, hgp, hown⟩ := hp'.at_ (by rw [HL.out]; omega)
        rw [HL.out] at cp hcc hown
        obtain ⟨j, hj⟩ : ∃ j, j = (k - 1) / 2 := ⟨_, rfl⟩
        obtain ⟨x, hx⟩ : ∃ x, L'[k]? = some x := ⟨_, List.getElem?_eq_getElem (by rw [HL.out]; omega)⟩
        obtain ⟨y, hy⟩ : ∃ y, L'[j]? = some y := ⟨_, List.getElem?_eq_getElem (by rw [HL.out]; omega)⟩
        obtain ⟨x0, x1, x2, f0, f1, f2⟩ := hown.ent_at HL.out hx
        obtain ⟨y0, y1, y2, e0, e1, e2⟩ := hown.ent_at HL.out hy
        have HX := hide hx
        have HY := hide hy
        have HJ := hide hj
        have HLS2 := hide (fun w => heap_less x y w)
        have q0 : (0 : Int) < (k : Int) := by omega
        have q0n : 0 < k := by omega
        have q1 : (k : Int) < (n : Int) + 1 := by omega
        have q2 : ((k : Int) - 1).tdiv 2 = (j : Int) := by rw [Int.tdiv_eq_ediv_of_nonneg (by omega)]; omega
        have q3 : (j : Int) < (n : Int) + 1 := by omega
        have hkj : ¬ j = k := by omega
        have hkj' : ¬ k = j := by omega
        have q4 : IntKind.i64.wrap ((k : Int) - 1) = (k : Int) - 1 := IntWalk.i64_in _ (by omega)
        have q5 : IntKind.i64.wrap (j : Int) = (j : Int) := IntWalk.i64_in _ (by omega)
        clear hown hx hy hj hp'
        go_upto_region 3 with fail
        go_cut [41] (fun s wx => s = .bool (lt x y) ∧ Below wr.heap.size wr wx)
        case first =>
          go_region_held3 (fun w' => w'.cell? ⟨p, 0, none⟩ = some (.slice (some ⟨g', 0, none⟩) (n + 1) cc) ∧ w'.cell? ⟨g', k * 3, none⟩ = some (.int .i64 x.t) ∧ w'.cell? ⟨g', k * 3 + 1, none⟩ = some (.int .i64 x.k) ∧ w'.cell? ⟨g', k * 3 + 2, none⟩ = some (.int .i64 x.i) ∧ w'.cell? ⟨g', j * 3, none⟩ = some (.int .i64 y.t) ∧ w'.cell? ⟨g', j * 3 + 1, none⟩ = some (.int .i64 y.k) ∧ w'.cell? ⟨g', j * 3 + 2, none⟩ = some (.int .i64 y.i) ∧ Below wr.heap.size wr w')
            (first | (go_split_ands; exact ⟨hold1 hb4 ‹_›, hold1 hb4 ‹_›, hold1 hb4 ‹_›, hold1 hb4 ‹_›, hold1 hb4 ‹_›, hold1 hb4 ‹_›, hold1 hb4 ‹_›, (‹Below wr.heap.size wr _›).trans (hb4.mono (‹Below wr.heap.size wr _›).size)⟩) | (exact ⟨cp, x0, x1, x2, y0, y1, y2, (Below.refl _ _).drew⟩))
            (first | (go_at_call 44; refine (HLS2.out _).mono ?_; rintro e w4 ⟨rfl, hb4⟩))
          all_goals (go_wp2_with fail; go_meet; exact ⟨rfl, by go_split_ands; assumption⟩)
        case rest =>
          obtain ⟨rfl, hbw⟩ := hcut
          have HBW := hide hbw
          cases hlt : lt x y with
          | false =>
            have HLT := hide hlt
            clear hbw hlt cp x0 x1 x2 y0 y1 y2 f0 f1 f2 e0 e1 e2
            go_wp2_with fail
            go_end0
            refine ⟨rfl, g', L', HP.out.below HBW.out, up_end HUU.out (.inr ?_), HM.out.trans HPM.out, (HO1.out.trans HON.out ?_).then_ HBW.out, ?_⟩
            · intro x' y' hx' hy'
              rw [← HJ.out, HY.out] at hy'
              rw [HX.out] at hx'
              injection hx' with hx'; injection hy' with hy'; subst hx'; subst hy'
              exact HLT.out
            · rw [hr]; exact HG1.out
            · rw [hr]; exact HG1.out
          | true =>
            have HLT := hide hlt
            have HPX := hide (HP.out.below hbw)
            have cp' := hold1 hbw cp
            have x0' := hold1 hbw x0
            have x1' := hold1 hbw x1
            have x2' := hold1 hbw x2
            have y0' := hold1 hbw y0
            have y1' := hold1 hbw y1
            have y2' := hold1 hbw y2
            have hgl := World.block_lt_of_cell? wr _ x0
            have f0' := (hbw.frozen (p := ⟨g', k * 3, none⟩) hgl).trans f0
            have f1' := (hbw.frozen (p := ⟨g', k * 3 + 1, none⟩) hgl).trans f1
            have f2' := (hbw.frozen (p := ⟨g', k * 3 + 2, none⟩) hgl).trans f2
            have e0' := (hbw.frozen (p := ⟨g', j * 3, none⟩) hgl).trans e0
            have e1' := (hbw.frozen (p := ⟨g', j * 3 + 1, none⟩) hgl).trans e1
            have e2' := (hbw.frozen (p := ⟨g', j * 3 + 2, none⟩) hgl).trans e2
            clear hbw hlt cp x0 x1 x2 y0 y1 y2 f0 f1 f2 e0 e1 e2 hgl
            have HSW := hide (HPX.out.swap HX.out HY.out).drew
            have HSO := hide ((((((((Only.refl p g' wc).set (a := ⟨g', k * 3, none⟩) (.inr ⟨rfl, hgp⟩) (.int .i64 y.t)).set (a := ⟨g', k * 3 + 1, none⟩) (.inr ⟨rfl, hgp⟩) (.int .i64 y.k)).set (a := ⟨g', k * 3 + 2, none⟩) (.inr ⟨rfl, hgp⟩) (.int .i64 y.i)).set (a := ⟨g', j * 3, none⟩) (.inr ⟨rfl, hgp⟩) (.int .i64 x.t)).set (a := ⟨g', j * 3 + 1, none⟩) (.inr ⟨rfl, hgp⟩) (.int .i64 x.k)).set (a := ⟨g', j * 3 + 2, none⟩) (.inr ⟨rfl, hgp⟩) (.int .i64 x.i)).drew)
            go_wp2_with fail
            go_region
            go_wp2_with fail
            go_roundw
            case rel => exact ⟨j, sw L' k j x y, rfl, by have := HJ.out; omega, HSW.out, up_step HUU.out q0n HJ.out HX.out HY.out HLT.out, (sw_perm HX.out HY.out (by have := HJ.out; omega)).trans HM.out, (HON.out.then_ HBW.out).trans HSO.out (.inl rfl)⟩
            case measure => simp [intOf]; have := HJ.out; omega
end Go.Proofs.Ytknmpfimnbenjaa
