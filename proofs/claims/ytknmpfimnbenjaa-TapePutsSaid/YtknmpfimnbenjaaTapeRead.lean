/-
  tape.Read: the log of bytes.
-/
import Derived.Test.YtknmpfimnbenjaaTapeRead0
import Derived.Laws.ResultCell
import Derived.Deep.AppendLies
import Derived.Deep.RegionLaw
namespace Go.Proofs.Ytknmpfimnbenjaa
open Go.RowKit HB PackP TapeP
set_option linter.unusedVariables false
set_option linter.unusedSimpArgs false
def Good (b : List Int) : Prop := ∃ b', b = 76 :: b' ∧ (fin b').2 = false ∧ (fin b').1 = []
def ReadP (b : List Int) (w : World) (e : Ending) (w' : World) : Prop :=
  Below w.heap.size w w' ∧ ((∃ b', b = 76 :: b' ∧ (fin b').2 = false ∧ (fin b').1 = [] ∧ ∃ A n c A' n' c', e = .returned (.tuple #[.agg #[.slice A n c, .slice A' n' c', .int .i64 (rLog b').u], .int .i64 0]) ∧ Trs w' w'.heap.size A n (rLog b').ts ∧ Lgs w' w'.heap.size A' n' (rLog b').ls ∧ n ≤ c ∧ n' ≤ c')
    ∨ (¬ Good b ∧ e = .returned (.tuple #[.agg #[.slice none 0 0, .slice none 0 0, .int .i64 0], .int .i64 20])))
theorem make_p (A : Option Addr) (n c B : Nat) (b : List Int) (W : World) (hc : n ≤ c) (hl : b.length = n) (hn : n ≤ 1000000) (hb : In b) (hr : Rd W B 1 A n (b.map (Value.int .u8))) (hB : B ≤ W.heap.size) :
    Calls Try.prog 22 #[.slice A n c] W fun e w' => ∃ p, W.heap.size ≤ p ∧ e = .returned (.pointer (some ⟨p, 0, none⟩)) ∧ Rs w' p B (b, false) ∧ Below W.heap.size W w' :=
  (reader_make A n c B b W hc hl hr hB).mono fun e w' ⟨he, hr, hb'⟩ => ⟨_, Nat.le_refl _, he, ⟨hr, hb, by show b.length ≤ _; omega⟩, hb'⟩
theorem bset3 {w wr : World} (h : Below w.heap.size w wr) (x y z : Value) : Below w.heap.size w (((wr.setCell ⟨w.heap.size, 0, none⟩ x).setCell ⟨w.heap.size, 1, none⟩ y).setCell ⟨w.heap.size, 2, none⟩ z) :=
  ((h.setCell (p := ⟨w.heap.size, 0, none⟩) (Nat.le_refl _) x).setCell (p := ⟨w.heap.size, 1, none⟩) (Nat.le_refl _) y).setCell (p := ⟨w.heap.size, 2, none⟩) (Nat.le_refl _) z
theorem rc_one (r : RowL) : ∀ u ∈ rc r, u.oneCell' = true := by intro u hu; simp [rc] at hu; subst hu; rfl
theorem lft0 (s : St) : -9223372036854775808 ≤ lft s := by unfold lft; omega
theorem lft1 {w : World} {p B : Nat} {s : St} (h : Rs w p B s) : lft s ≤ 9223372036854775807 := by have := h.l; unfold lft; omega
set_option maxRecDepth 100000 in
set_option maxHeartbeats 4000000 in
theorem tape_read (A : Option Addr) (n c B : Nat) (b : List Int) (w : World) (hr : Rd w B 1 A n (b.map (Value.int .u8))) (hB : B ≤ w.heap.size) (hl : b.length = n) (hc : n ≤ c) (hn : n ≤ 1000000) (hb : In b) :
    Calls Try.prog 32 #[.slice A n c] w (ReadP b w) := by
  have HR := hide hr
  have HBB := hide hb
  have Hl := hide hl
  clear hr hb hl
  by_cases h0 : n = 0
  · subst h0
    have hng : ¬ Good b := by
      rintro ⟨b', rfl, -⟩
      have := Hl.out
      simp at this
    have HNG := hide hng
    clear hng
    go_enter Try.func32, Try.ntmps32
    go_wp2_with fail
    (try simp only [Exit.inBlock, Exit.then])
    refine bodyPost_ret (v := .tuple #[.agg #[.slice none 0 0, .slice none 0 0, .int .i64 0], .int .i64 20]) (by rw [results_cell_tmp rfl]; go_simp) rfl ?_
    exact ⟨by go_grown, .inr ⟨HNG.out, rfl⟩⟩
  · obtain ⟨bb, off, x, rfl, hbb, hx, c0⟩ := HR.out.int_at Hl.out (show 0 < n by omega)
    have hbw : bb < w.heap.size := by omega
    rw [Nat.add_zero] at c0
    have hn0 : ((n : Int) == 0) = false := by simpa using h0
    by_cases h76 : x = 76
    · subst h76
      obtain ⟨b', rfl⟩ : ∃ b', b = 76 :: b' := by
        cases b with
        | nil => simp at hx
        | cons y l => simp at hx; exact ⟨l, by rw [hx]⟩
      have hcut := HR.out.cut (k := 1) (cap := c) (by omega) hc
      rw [Nat.mul_one, ← List.map_drop] at hcut
      have HCUT := hide hcut
      have i0 : (0 : Int) ≤ 1 := by omega
      have i1 : (1 : Int) ≤ (n : Int) := by omega
      clear hcut hx
      have hlb : b'.length = n - 1 := by have := Hl.out; simp at this; omega
      have hib : In b' := fun y hy => HBB.out y (List.mem_cons_of_mem _ hy)
      have HIB := hide hib
      have HLB := hide hlb
      clear hib hlb
      have HCUT2 := hide (show Rd w B 1 (if c = 1 then some (⟨bb, off, none⟩ : Addr) else some ⟨bb, off + 1, none⟩) (n - 1) (b'.map (Value.int .u8)) from HCUT.out)
      have HZ := hide (L3.new w (.slice none 0 0) (.slice none 0 0) (.int .i64 0) 57)
      have HMK := hide (make_p (if c = 1 then some (⟨bb, off, none⟩ : Addr) else some ⟨bb, off + 1, none⟩) (n - 1) (c - 1) B b' (w.alloc (.cells #[.slice none 0 0, .slice none 0 0, .int .i64 0] 57)) (by omega) HLB.out (by omega) HIB.out (HCUT2.out.alloc hB _) (by simp; omega))
      clear HCUT
      obtain ⟨K1, hK1⟩ : ∃ K1, K1 = gs (nx (b', false)) (lft (nx (b', false))) := ⟨_, rfl⟩
      have hK1m : K1 ≤ 1000000 := by
        have h1 := gs_le (nx (b', false)) (m := lft (nx (b', false))) (by unfold lft; omega)
        have h2 : (nx (b', false)).1.length ≤ b'.length := St.nx_len (b', false)
        rw [← hK1] at h1
        have h3 := HLB.out
        unfold lft at h1
        omega
      have HK1 := hide hK1
      clear hK1
      obtain ⟨ts, hts⟩ : ∃ ts, ts = (rTs K1 (sm (nx (b', false)) (lft (nx (b', false))))).1 := ⟨_, rfl⟩
      obtain ⟨s3, hs3⟩ : ∃ s3, s3 = (rTs K1 (sm (nx (b', false)) (lft (nx (b', false))))).2 := ⟨_, rfl⟩
      obtain ⟨K2, hK2⟩ : ∃ K2, K2 = gs s3 (lft s3) := ⟨_, rfl⟩
      obtain ⟨s4, hs4⟩ : ∃ s4, s4 = sm s3 (lft s3) := ⟨_, rfl⟩
      have HTS := hide hts
      have HS3 := hide hs3
      have HK2 := hide hK2
      have HS4 := hide hs4
      have HRB := hide (show rB b' = rCs K2 s4 from by rw [hK2, hs4, hs3, HK1.out]; rfl)
      have HRA := hide (show (rA b').1 = ts from by rw [hts, HK1.out]; rfl)
      clear hts hs3 hK2 hs4
      rcases Decidable.em (c = 1) with hc1 | hc1
      all_goals
        first
          | rw [if_pos hc1, show c - 1 = 0 by omega] at HMK
          | rw [if_neg hc1] at HMK
        go_enter Try.func32, Try.ntmps32
        go_wp2_with (first
          | (go_at_call 22; refine (HMK.out).mono ?_; rintro e w1 ⟨p, hp, rfl, hr1, hb1⟩; have hzp : w.heap.size < p := (by rw [World.size_alloc] at hp; exact hp); have HZ1 := hide (HZ.out.below hb1 (by simp)); have HB1 := hide (((Below.refl w.heap.size w).alloc (Nat.le_refl _) (.cells #[.slice none 0 0, .slice none 0 0, .int .i64 0] 57)).trans (hb1.mono (by simp))); have hpz : some w.heap.size ≠ some p := (fun he => by injection he with he; omega); clear hp hb1)
          | (go_at_call 23; refine (rs_int hr1).mono ?_; rintro e w2 ⟨rfl, hr2, hg2⟩; have HZ2 := hide (HZ1.out.grown hg2 hpz); have HB2 := hide (HB1.out.grown hg2 HB1.out.size (fun k hk => by injection hk with hk; omega)); have hp2 := hr2.r.hp; have HR3 := hide (hr2.below ((Below.refl w2.heap.size w2).alloc (Nat.le_refl _) (.cells #[.slice none 0 0, .slice none 0 0, .int .i64 (gi (b', false))] 57)) hp2); have HQ3 := hide (L3.new w2 (.slice none 0 0) (.slice none 0 0) (.int .i64 (gi (b', false))) 57); have HZ3 := hide (HZ2.out.below ((Below.refl w2.heap.size w2).alloc (Nat.le_refl _) (.cells #[.slice none 0 0, .slice none 0 0, .int .i64 (gi (b', false))] 57)) (by omega)); have HB3 := hide (HB2.out.alloc (by omega) (.cells #[.slice none 0 0, .slice none 0 0, .int .i64 (gi (b', false))] 57)); have hpq : some w2.heap.size ≠ some p := (fun he => by injection he with he; omega); clear hr1 hr2 hg2 HZ1 HZ2 HB1 HB2)
          | (go_at_call 25; refine (rs_left HR6.out).mono ?_; rintro e w6 ⟨rfl, rfl⟩)
          | (go_at_call 54; refine (rs_small HR6.out (lft s3) (lft0 _) (lft1 HR6.out)).mono ?_; rintro e w7 ⟨rfl, hr7, hg7⟩; have hK2m : K2 ≤ 1000000 := (by have h1 := gs_le s3 (m := lft s3) (by unfold lft; omega); have h2 := HR6.out.l; rw [← HK2.out] at h1; unfold lft at h1; omega); rw [← HK2.out]; rw [← HS4.out] at hr7; have HRS := hide (show RS w7 p w.heap.size w2.heap.size B (.slice tA ts.length tcp) (.slice none 0 0) (.int .i64 (gi (b', false))) ts [] s4 from ⟨hr7, hp2, hzp, HZ6.out.grown hg7 hpz, HQ6.out.grown hg7 hpq, Own.grownP HOT6.out hg7 (by omega), Own.nil _ _ _ _ _, Dj.nil _ _ _, fun r hr => by simp at hr⟩); have HB7 := hide (HB6.out.grown hg7 HB6.out.size (fun k hk => by injection hk with hk; omega)); clear hr7 hg7)
          | (go_at_call 25; refine (rs_left HR3.out).mono ?_; rintro e w3 ⟨rfl, rfl⟩)
          | (go_at_call 54; refine (rs_small HR3.out (lft (nx (b', false))) (lft0 _) (lft1 HR3.out)).mono ?_; rintro e w4 ⟨rfl, hr4, hg4⟩; rw [← HK1.out]; have HR4 := hide hr4; have HG4 := hide hg4; clear hr4 hg4)
          | (go_at_call 57; refine (tape_trips p B K1 _ w4 HR4.out hK1m).mono ?_; rintro e w5 ⟨⟨tv, rfl, hot⟩, hr5, hg5⟩; rw [← HTS.out] at hot; rw [← HS3.out] at hr5; obtain ⟨tA, tcp, rfl, -, -⟩ := Own.shape hot; have hq5 := ((HQ3.out.grown HG4.out hpq).grown hg5 hpq); have q0 := hq5.c0; have q1 := hq5.f0; have hz24 : w2.heap.size + 1 ≤ w4.heap.size := (by have h := HG4.out.size; rw [World.size_alloc] at h; exact h); have hb6 := (Below.refl w2.heap.size w5).setCell (p := ⟨w2.heap.size, 0, none⟩) (Nat.le_refl _) (.slice tA ts.length tcp); have HR6 := hide (hr5.below hb6 hp2); have HQ6 := hide (hq5.set0 (.slice tA ts.length tcp)); have HZ6 := hide (((HZ3.out.grown HG4.out hpz).grown hg5 hpz).below hb6 (by omega)); have HOT6 := hide (Own.setBelow (Own.small hot hz24) (p := ⟨w2.heap.size, 0, none⟩) (Nat.lt_succ_self _) (.slice tA ts.length tcp)); have HB6 := hide ((((HB3.out.grown HG4.out HB3.out.size (fun k hk => by injection hk with hk; omega)).grown hg5 (by omega) (fun k hk => by injection hk with hk; omega)).trans (hb6.mono (by omega)))); clear hq5 hot hr5 hg5 hb6))
        clear q0 q1 HR3 HQ3 HZ3 HB3 HR4 HG4 HR6 HQ6 HZ6 HOT6 HB6 HZ HMK HCUT2
        have hfinb : ∀ (R : List RowL) (s' : St), rCs K2 s4 = (R.map RowL.l, s') → fin b' = s' ∧ rLog b' = ⟨ts, R.map RowL.l, gi (b', false)⟩ := fun R s' h => by
          have h1 : rB b' = (R.map RowL.l, s') := by rw [HRB.out]; exact h
          exact ⟨by rw [fin, h1], by rw [rLog, h1, HRA.out]⟩
        have HFIN := hide hfinb
        clear hfinb
        go_loopw [7] (fun i wr => ∃ (j : Nat) (v : Value) (R : List RowL) (s' : St), j ≤ K2 ∧ i = .int .i64 j ∧ RS wr p w.heap.size w2.heap.size B (.slice tA ts.length tcp) v (.int .i64 (gi (b', false))) ts R s' ∧ R.length ≤ j ∧ rCs K2 s4 = (R.map RowL.l ++ (rCs (K2 - j) s').1, (rCs (K2 - j) s').2) ∧ Below w.heap.size w wr) (fun i _ => K2 - (intOf i).toNat)
        case atStart => exact ⟨0, _, [], s4, Nat.zero_le _, rfl, HRS.out, Nat.le_refl _, rfl, HB7.out⟩
        case round =>
          obtain ⟨j, v, R, s', hj, rfl, hrs, hrl, heq, hbw⟩ := hrel
          obtain ⟨A5, c5, hv5, hRc, -⟩ := Own.shape hrs.ov
          obtain ⟨nR, hnR⟩ : ∃ nR, nR = R.length := ⟨_, rfl⟩
          rw [← hnR] at hv5 hRc
          subst hv5
          have H := hide hrs
          have HE := hide heq
          have HBW := hide hbw
          have HNR := hide hnR
          have q0 := hrs.bx.c0
          have q1 := hrs.bx.c1
          have q2 := hrs.bx.c2
          have g1 := hrs.bx.f1
          have z0 := hrs.bz.c0
          have z1 := hrs.bz.c1
          have z2 := hrs.bz.c2
          have y0 := hrs.bz.f0
          have y1 := hrs.bz.f1
          have y2 := hrs.bz.f2
          clear hrs heq hbw HRS HB7 hnR
          have fin_ : rCs (K2 - j) s' = ([], s') → rCs K2 s4 = (R.map RowL.l, s') := fun h => by rw [HE.out, h]; simp
          by_cases hlt : j < K2
          · cases hb : s'.2 with
            | true =>
              have HF := hide (HFIN.out _ _ (fin_ (rCs_no hb)))
              have HNG := hide (show ¬ Good (76 :: b') from by
                rintro ⟨b2, hb2, h3, -⟩
                injection hb2 with _ hb2
                subst hb2
                rw [HF.out.1, hb] at h3; cases h3)
              clear fin_
              go_wp2_with (go_at_call 26; refine (rs_bad H.out.r).mono ?_; rintro e w8 ⟨rfl, rfl⟩; rw [hb])
              (try simp only [Exit.inBlock, Exit.then])
              refine bodyPost_ret (v := .tuple #[.agg #[.slice none 0 0, .slice none 0 0, .int .i64 0], .int .i64 20]) (by rw [results_cell_tmp rfl]; go_simp) rfl ?_
              exact ⟨bset3 HBW.out _ _ _, .inr ⟨HNG.out, rfl⟩⟩
            | false =>
              obtain ⟨m, hm⟩ : ∃ m, K2 - j = m + 1 := ⟨K2 - j - 1, by omega⟩
              have HE2 := hide (show rCs K2 s4 = ((R.map RowL.l ++ [(rC s').1]) ++ (rCs (K2 - (j + 1)) (rC s').2).1, (rCs (K2 - (j + 1)) (rC s').2).2) from by
                rw [HE.out, hm, rCs_yes hb, show K2 - (j + 1) = m by omega]; simp)
              clear fin_ hm z0 z1 z2 y0 y1 y2
              go_wp2_with (go_at_call 26; refine (rs_bad H.out.r).mono ?_; rintro e w8 ⟨rfl, rfl⟩; rw [hb])
              have hbq : w2.heap.size + 1 ≤ wr.heap.size := H.out.bx.hq
              go_region_law (first
                | (refine pushK1 (P := Try.prog) rfl _ _ 55 rfl Try.underlying55 Legs.info rfl (by omega) (by omega) rfl HH6.out.ov (⟨lA, l.length, lcp, l⟩ : RowL) ⟨w5.heap.size, 0, none⟩ 1 rfl rfl (cells_new _ _ [.slice lA l.length lcp] _ rfl) (rc_one _) (by omega) HH6.out.bx.hq ?_; intro v6 w6 hown6 hg6 hn6; have hcl := HH6.out.cell1 hg6; have hH7 := RS.push HH6.out HRW.out HDJ.out hown6 hg6 hn6; have HB6 := hide (HB57.out.trans ((Below.refl w.heap.size _).grown hg6 HBZ.out (fun k hk => by have := (HH6.out.ov.row.lt k hk).1; omega))); obtain ⟨A6, c6, hv6, -, -⟩ := Own.shape hown6; rw [List.length_append, List.length_singleton] at hv6; subst hv6; have k61 := hcl.1; have k62 := hcl.2; have HH7 := hide hH7; clear hown6 hg6 hn6 hcl hH7)
                | (go_simp; go_at_call 58; refine (tape_legs p B s' _ (H.out.grow (Below.refl _ _).drew).r).mono ?_; rintro e w5 ⟨⟨lv, rfl, hol⟩, hr5, hg5⟩; obtain ⟨l, hl⟩ : ∃ l, l = (rC s').1 := ⟨_, rfl⟩; obtain ⟨s5, hs5⟩ : ∃ s5, s5 = (rC s').2 := ⟨_, rfl⟩; rw [← hl] at hol; rw [← hs5] at hr5; have hH5 := (H.out.grow (Below.refl _ _).drew).read hr5 hg5; have hdj := Own.outside2 H.out.ov hol (Nat.le_refl _); obtain ⟨lA, lcp, rfl, -, -⟩ := Own.shape hol; have q51 := hH5.bx.c1; have HL := hide hl; have HS5 := hide hs5; have HB57 := hide (((HBW.out.drew.grown hg5 (by have := HBW.out.size; simpa using this) (fun k hk => by injection hk with hk; omega))).alloc (by have h1 := HBW.out.size; have h2 := hg5.size; simp only [World.size_drew] at h2; omega) (.cells #[.slice lA l.length lcp] 97)); have HBZ := hide HB57.out.size; have HH6 := hide (hH5.grow ((Below.refl w5.heap.size w5).alloc (Nat.le_refl _) (.cells #[.slice lA l.length lcp] 97))); have q52 := HH6.out.bx.c1; have HRW := hide (show OwnL (w5.alloc (.cells #[.slice lA l.length lcp] 97)) (w2.heap.size + 1) (⟨lA, l.length, lcp, l⟩ : RowL).v l from (Own.alloc (Own.small hol hbq) (.cells #[.slice lA l.length lcp] 97))); have HDJ := hide (show Dj (.slice A5 nR c5) (⟨lA, l.length, lcp, l⟩ : RowL).v from hdj); clear hH5 hol hr5 hg5 hdj hl hs5))
              all_goals
                go_wp2_with fail
                go_roundw
                case rel => exact ⟨j + 1, _, R ++ [⟨lA, l.length, lcp, l⟩], s5, by omega, by go_num, HH7.out, by rw [List.length_append, List.length_singleton]; omega, by have h := HE2.out; rw [← HL.out, ← HS5.out] at h; rw [List.map_append]; exact h, HB6.out.setCell (p := ⟨w2.heap.size, 1, none⟩) (show w.heap.size ≤ w2.heap.size by omega) _⟩
                case measure => simp [intOf]; omega
          · obtain rfl : j = K2 := by omega
            have HF := hide (HFIN.out _ _ (fin_ (by rw [Nat.sub_self]; rfl)))
            clear fin_
            cases hb : s'.2 with
            | true =>
              have HNG := hide (show ¬ Good (76 :: b') from by
                rintro ⟨b2, hb2, h3, -⟩
                injection hb2 with _ hb2
                subst hb2
                rw [HF.out.1, hb] at h3; cases h3)
              go_wp2_with (go_at_call 26; refine (rs_bad H.out.r).mono ?_; rintro e w8 ⟨rfl, rfl⟩; rw [hb])
              (try simp only [Exit.inBlock, Exit.then])
              refine bodyPost_ret (v := .tuple #[.agg #[.slice none 0 0, .slice none 0 0, .int .i64 0], .int .i64 20]) (by rw [results_cell_tmp rfl]; go_simp) rfl ?_
              exact ⟨bset3 HBW.out _ _ _, .inr ⟨HNG.out, rfl⟩⟩
            | false =>
              have hl0 : lft s' = (s'.1.length : Int) := rfl
              by_cases hlen : s'.1.length = 0
              · have hl1 : lft s' = 0 := by rw [hl0, hlen]; rfl
                go_wp2_with (first
                  | (go_at_call 26; refine (rs_bad H.out.r).mono ?_; rintro e w8 ⟨rfl, rfl⟩; rw [hb])
                  | (go_at_call 25; refine (rs_left H.out.r).mono ?_; rintro e w9 ⟨rfl, rfl⟩; rw [hl1]))
                (try simp only [Exit.inBlock, Exit.then])
                refine bodyPost_ret (v := .tuple #[.agg #[.slice tA ts.length tcp, .slice A5 nR c5, .int .i64 (gi (b', false))], .int .i64 0]) (by rw [results_cell_tmp rfl]; go_simp) rfl ?_
                have hwq : w.heap.size < w2.heap.size + 1 := by omega
                have HT := ((H.out.rt.setz hwq 0 (.slice tA ts.length tcp)).setz hwq 1 (.slice A5 nR c5)).setz hwq 2 (.int .i64 (gi (b', false)))
                refine ⟨bset3 HBW.out _ _ _, .inl ⟨b', rfl, by rw [HF.out.1]; exact hb, by rw [HF.out.1]; exact List.eq_nil_of_length_eq_zero hlen, tA, ts.length, tcp, A5, nR, c5, ?_, ?_, ?_, HT.trs.2, HT.lgs.2⟩⟩
                · rw [HF.out.2]
                · rw [HF.out.2]; exact HT.trs.1
                · rw [HF.out.2]; exact HT.lgs.1
              · have hl1 : (0 : Int) < lft s' := by rw [hl0]; omega
                have HNG := hide (show ¬ Good (76 :: b') from by
                  rintro ⟨b2, hb2, -, h3⟩
                  injection hb2 with _ hb2
                  subst hb2
                  rw [HF.out.1] at h3; rw [h3] at hlen; exact hlen rfl)
                go_wp2_with (first
                  | (go_at_call 26; refine (rs_bad H.out.r).mono ?_; rintro e w8 ⟨rfl, rfl⟩; rw [hb])
                  | (go_at_call 25; refine (rs_left H.out.r).mono ?_; rintro e w9 ⟨rfl, rfl⟩))
                (try simp only [Exit.inBlock, Exit.then])
                refine bodyPost_ret (v := .tuple #[.agg #[.slice none 0 0, .slice none 0 0, .int .i64 0], .int .i64 20]) (by rw [results_cell_tmp rfl]; go_simp) rfl ?_
                exact ⟨bset3 HBW.out _ _ _, .inr ⟨HNG.out, rfl⟩⟩
    · have hx1 : (x != 76) = true := by rw [bne_iff_ne]; exact h76
      have hng : ¬ Good b := by
        rintro ⟨b', rfl, -⟩
        simp at hx
        exact h76 hx.symm
      have HNG := hide hng
      clear hng hx h76
      go_enter Try.func32, Try.ntmps32
      go_wp2_with fail
      (try simp only [Exit.inBlock, Exit.then])
      refine bodyPost_ret (v := .tuple #[.agg #[.slice none 0 0, .slice none 0 0, .int .i64 0], .int .i64 20]) (by rw [results_cell_tmp rfl]; go_simp) rfl ?_
      exact ⟨by go_grown, .inr ⟨HNG.out, rfl⟩⟩
end Go.Proofs.Ytknmpfimnbenjaa
