/-
  The walk of pareto.Layers.
-/
import Derived.Test.YtkgkilogjodccaaPareto
import Derived.Test.YtkgkilogjodccaaOnly
import Derived.Test.YtkgkilogjodccaaLayersPlain2
import Derived.BigRegion
import Derived.Deep.OwnRows
namespace Go.Proofs.Ytkgkilogjodccaa
open Go.RowKit HB ParetoP
set_option linter.unusedVariables false
set_option linter.unusedSimpArgs false
abbrev rv : RowR → List Value := fun r => [r.v]
abbrev cst (l : List Nat) : List Int := l.map Int.ofNat
theorem Rows.info : (Try.prog.info? 35).map (fun i => (i.zero, i.size, i.bytes)) = some (some (.slice none 0 0), 1, 24) := by kernel_rfl
theorem Bools.info : (Try.prog.info? 4).map (fun i => (i.zero, i.size, i.bytes)) = some (some (.bool false), 1, 1) := by kernel_rfl
def lenV : Value → Nat
  | .slice _ n _ => n
  | _ => 0
theorem Own.rd {w : World} {base n c : Nat} {e : TypeId} {A : Option Addr} {l : List Int} (h : Own w base e 1 (num .i64) (.slice A n c) l) (hl : l.length = n) : Rd w w.heap.size 1 A n (l.map (Value.int .i64)) := by
  have h1 := h.row
  rw [hl, map_flat] at h1
  exact Rd.own h1
theorem rv_map : ∀ l : List RowR, l.flatMap rv = l.map RowR.v
  | [] => rfl
  | r :: l => by rw [List.flatMap_cons, rv_map l]; rfl
theorem rest_ls (R : List RowR) (lb : List Bool) : lsOf ((idx lb (lsOf R).length).map fun i => R.getD i default) = rest (lsOf R) lb := by
  unfold lsOf rest
  rw [List.map_map]
  apply List.map_congr_left
  intro i _
  simp only [Function.comp, rw_, List.getD, List.getElem?_map]
  cases R[i]? <;> rfl
/-- what holds at the head of a round -/
def LRel (R : List RowR) (n : Nat) (w : World) (s5 s6 : Value) (wr : World) : Prop :=
  ∃ (t : Nat) (lb : List Bool) (lo : List Nat), s5 = .int .i64 t ∧ s6 = .int .i64 (lb.count true : Nat) ∧ lb.length = n ∧ lo.length = n ∧ Lay (lsOf R) t (fun i => lb.getD i false) (fun i => lo.getD i 0) ∧ t ≤ lb.count true ∧
    Own wr w.heap.size 3 1 (num .i64) (.slice (some ⟨w.heap.size, 0, none⟩) n n) (cst lo) ∧ Own wr w.heap.size 4 1 bl (.slice (some ⟨w.heap.size + 1, 0, none⟩) n n) lb ∧ Below w.heap.size w wr ∧ w.heap.size + 2 ≤ wr.heap.size
/-- the loop that gathers -/
def GRel (R : List RowR) (lb : List Bool) (n : Nat) (w : World) (s7 s8 s27 : Value) (wx : World) : Prop :=
  ∃ q, q ≤ n ∧ s27 = .int .i64 (q : Nat) ∧ Own wx w.heap.size 35 1 rv s7 ((idx lb q).map fun i => R.getD i default) ∧ Own wx w.heap.size 3 1 (num .i64) s8 (cst (idx lb q)) ∧ (∀ k, s7.ownBlock = some k → s8.ownBlock ≠ some k) ∧ Below w.heap.size w wx
/-- the loop that stores -/
def StRel (S : List Nat) (t : Nat) (lb : List Bool) (lo : List Nat) (n N : Nat) (g base : Nat) (w : World) (s6 s49 : Value) (wx : World) : Prop :=
  ∃ (m : Nat) (lb' : List Bool) (lo' : List Nat), m ≤ N ∧ s49 = .int .i64 (m : Nat) ∧ s6 = .int .i64 (lb'.count true : Nat) ∧ Stp S t m lb lb' lo lo' ∧
    Own wx base 3 1 (num .i64) (.slice (some ⟨g, 0, none⟩) n n) (cst lo') ∧ Own wx base 4 1 bl (.slice (some ⟨g + 1, 0, none⟩) n n) lb' ∧ Only g (g + 1) w wx
set_option maxRecDepth 100000 in
set_option maxHeartbeats 8000000 in
theorem pareto_layers (A : Option Addr) (n c B : Nat) (R : List RowR) (w : World) (hr : Rws w B A n R) (hB : B ≤ w.heap.size) (hn : n ≤ 25) (h8 : ∀ l ∈ lsOf R, l.length ≤ 8) :
    Calls Try.prog 57 #[.slice A n c] w fun e w' => (∃ v lo, e = .returned v ∧ Own w' w.heap.size 3 1 (num .i64) v (cst lo) ∧ lo.length = n ∧ ∀ i, i < n → ((lo.getD i 0 : Nat) : Int) = last (lsOf R) (fun i => lo.getD i 0) i n + 1 ∧ lo.getD i 0 ≤ 25) ∧ Below w.heap.size w w' := by
  have HR := hide hr
  have H8 := hide h8
  have HLN := hide (show (lsOf R).length = n by simp [lsOf, hr.2.1])
  clear hr h8
  have hmk := fun (W : World) => run_make_row' (P := Try.prog) 35 3 (.int .i64 0) 8 Try.underlying35 Pareto.info rfl .i64 .i64 n (by omega) (by omega) W
  have hmb := fun (W : World) => run_make_row' (P := Try.prog) 86 4 (.bool false) 1 Try.underlying86 Bools.info rfl .i64 .i64 n (by omega) (by omega) W
  have HO1 := hide ((Own.made (base := w.heap.size) (k := .i64) w 3 n (Nat.le_refl _) (by omega)).alloc (.cells (madeCells #[.bool false] n) 4))
  have HO2 := hide (Own.madeB (base := w.heap.size) (w.alloc (.cells (madeCells #[.int .i64 0] n) 3)) 4 n (by simp) (by omega))
  have HB0 := hide (((Below.refl w.heap.size w).alloc (Nat.le_refl _) (.cells (madeCells #[.int .i64 0] n) 3)).alloc (by simp) (.cells (madeCells #[.bool false] n) 4))
  go_enter Try.func57, Try.ntmps57
  go_wp2_with fail
  clear hmk hmb
  go_loopw [5, 6] (fun s5 s6 wr => LRel R n w s5 s6 wr) (fun _ s6 _ => n - (intOf s6).toNat)
  case atStart =>
    refine ⟨0, List.replicate n false, List.replicate n 0, rfl, by rw [List.count_replicate]; simp, by simp, by simp, ?_, Nat.zero_le _, ?_, ?_, HB0.out, by simp⟩
    · exact ⟨fun i hi h => (by simp [List.getD, List.getElem?_replicate] at h; split at h <;> simp at h), fun i _ _ => .inl rfl⟩
    · have := HO1.out; simpa [cst] using this
    · have := HO2.out; simpa using this
  case round =>
    obtain ⟨t, lb, lo, rfl, rfl, hlb, hlo, hlay, htc, ho1, ho2, hbel, hsz⟩ := hrel
    have HLB := hide hlb
    have HLO := hide hlo
    have HLAY := hide hlay
    have HQ1 := hide ho1
    have HQ2 := hide ho2
    have HBE := hide hbel
    have hzw := hbel.size
    have hcl : lb.count true ≤ n := by rw [← hlb]; exact List.count_le_length
    clear hlb hlo hlay ho1 ho2 hbel HO1 HO2 HB0
    obtain ⟨C, hC⟩ : ∃ C, C = lb.count true := ⟨_, rfl⟩
    rw [← hC] at hcl htc ⊢
    have HC := hide hC
    clear hC
    by_cases hgo : C < n
    · go_wp2_with fail
      go_loopw [7, 8, 27] (fun s7 s8 s27 wx => GRel R lb n wr s7 s8 s27 wx) (fun _ _ s27 _ => n - (intOf s27).toNat)
      case atStart => exact ⟨0, Nat.zero_le _, rfl, Own.nil _ _ _ _ _, Own.nil _ _ _ _ _, fun k hk => (by cases hk), Below.refl _ _⟩
      case round =>
        obtain ⟨q, hq, rfl, hor, hoa, hne, hbx⟩ := hrel
        have HOR := hide hor
        have HOA := hide hoa
        have HNE := hide hne
        have HBX := hide hbx
        have hzx := hbx.size
        have hql := idx_length lb q
        by_cases hlt : q < n
        · obtain ⟨b, off, hA, hb, hcell⟩ := (HR.out.below ((HBE.out.trans (hbx.mono hzw)).mono hB)).1.at_ (by omega)
          subst hA
          obtain ⟨r, hr⟩ : ∃ r, R[q]? = some r := ⟨_, List.getElem?_eq_getElem (by rw [HR.out.2.1]; exact hlt)⟩
          have c0 := hcell q r.v (by rw [List.getElem?_map, hr]; rfl)
          obtain ⟨x, hx, c1, -⟩ := (HQ2.out.below hbx).bool_at HLB.out hlt
          have i0 : (0 : Int) ≤ (q : Int) := by omega
          have i1 : (q : Int) < (n : Int) := by omega
          have HRG := hide (show R.getD q default = r by simp [List.getD, hr])
          have hz2 := HBE.out.size
          clear hor hoa hne hbx hcell hr
          cases x with
          | true =>
            have HI := hide (idx_no hx)
            clear hx
            go_wp2_with fail
            go_roundw
            case rel => exact ⟨q + 1, by omega, by go_num, by rw [HI.out]; exact HOR.out, by rw [HI.out]; exact HOA.out, HNE.out, HBX.out⟩
            case measure => simp [intOf]; omega
          | false =>
            have HI := hide (idx_yes hx)
            have HSB := hide (fun k (h : u7.ownBlock = some k) => HOR.out.row.lt k h)
            have HSA := hide (fun k (h : u8.ownBlock = some k) => HOA.out.row.lt k h)
            clear hx
            have HNE2 := hide (show u8.ownBlock = none ∨ u8.ownBlock ≠ u7.ownBlock from by
              cases h8 : u8.ownBlock with
              | none => exact .inl rfl
              | some k => right; intro h; exact HNE.out k h.symm h8)
            go_wp2_with (first
              | (at_builtin; refine pushG rfl _ _ 76 rfl Try.underlying76 Rows.info rfl (by omega) (by omega) rfl (HOR.out.alloc _) r ⟨_, 0, none⟩ 1 rfl rfl (cell_one_new _ _ _) (by simp [Value.oneCell']) (by simp; omega) (by simp; omega) ?_; intro g6 cap6 w6 hown6 hgr6 hk6 hl6;
                  have hgr7 : (wr.alloc (.cells #[r.v] 35)).grownBy w6 u7.ownBlock := hgr6;
                  have hk7 : u7.ownBlock = some g6 ∨ g6 = (wr.alloc (.cells #[r.v] 35)).heap.size := hk6;
                  have HR6 := hide hown6; have HA6 := hide ((HOA.out.alloc (.cells #[r.v] 35)).grown hgr7 HNE2.out);
                  have HB6 := hide ((HBX.out.alloc hzx (.cells #[r.v] 35)).grown hgr7 (by simp; omega) (fun k hk => (HSB.out k hk).1));
                  have hz6 := hgr7.size; rw [World.size_alloc] at hz6 hk7; have HK6 := hide hk7; clear hown6 hgr6 hgr7 hk6 hk7)
              | (at_builtin; refine pushG rfl _ _ 35 rfl Try.underlying35 Pareto.info rfl (by omega) (by omega) rfl (HA6.out.alloc _) (q : Int) ⟨_, 0, none⟩ 1 rfl rfl (cell_one_new _ _ _) (by simp [Value.oneCell']) (by simp; omega) (by simp; omega) ?_; intro g8 cap8 w8 hown8 hgr8 hk8 hl8;
                  have hgr9 : (w6.alloc (.cells #[.int .i64 (q : Int)] 3)).grownBy w8 u8.ownBlock := hgr8;
                  have hk9 : u8.ownBlock = some g8 ∨ g8 = (w6.alloc (.cells #[.int .i64 (q : Int)] 3)).heap.size := hk8;
                  have HA8 := hide hown8; have HG8 := hide hgr9; have HK8 := hide hk9; clear hown8 hgr8 hgr9 hk8 hk9))
            go_roundw
            case rel =>
              have h68 : some g6 ≠ u8.ownBlock := by
                intro h
                rcases HK6.out with h' | h'
                · exact HNE.out g6 h' h.symm
                · have := HSA.out g6 h.symm; omega
              have hg8 : g8 ≠ g6 := by
                intro h
                subst h
                rcases HK8.out with h' | h'
                · exact h68 h'.symm
                · rw [World.size_alloc] at h'; omega
              have hr8 := (HR6.out.alloc (.cells #[.int .i64 (q : Int)] 3)).grown HG8.out (.inr h68)
              have ha8 := HA8.out
              refine ⟨q + 1, by omega, by go_num, ?_, ?_, ?_, ?_⟩
              · rw [HI.out, List.map_append, List.map_singleton, HRG.out]
                simpa using hr8
              · rw [HI.out]
                simpa [cst] using ha8
              · intro k hk h
                simp only [Value.ownBlock, Option.some.injEq] at hk h
                omega
              · exact (HB6.out.alloc (by have := HB6.out.size; omega) (.cells #[.int .i64 (q : Int)] 3)).grown HG8.out (by have := HB6.out.size; simp; omega) (fun k hk => (HSA.out k hk).1)
            case measure => simp [intOf]; omega
        · obtain rfl : q = n := by omega
          clear hor hoa hne hbx
          have hbB := (HBE.out.trans (HBX.out.mono hzw)).mono hB
          have hRR := HR.out.below hbB
          obtain ⟨A7, c7, h7, hc7, hr7⟩ := HOR.out.shape
          have hlq : ((idx lb q).map fun i => R.getD i default).length = (idx lb q).length := List.length_map _
          rw [hlq] at h7 hc7 hr7
          rw [rv_map] at hr7
          have hz3 := HBX.out.size
          have hz4 := HBE.out.size
          have hrws : Rws wr wr.heap.size A7 (idx lb q).length ((idx lb q).map fun i => R.getD i default) := by
            refine ⟨hr7, hlq, fun r hr => ?_⟩
            obtain ⟨i, hi, rfl⟩ := List.mem_map.1 hr
            have hi2 := (idx_mem.1 hi).1
            have hm : R.getD i default ∈ R := by
              have hl : i < R.length := by rw [HR.out.2.1]; exact hi2
              simp [List.getD, List.getElem?_eq_getElem hl]
            have := hRR.2.2 _ hm
            exact ⟨this.1.mono (by omega), this.2⟩
          have hls := rest_ls R lb
          rw [HLN.out] at hls
          have hfr := pareto_front A7 (idx lb q).length c7 wr.heap.size _ wr hrws (Nat.le_refl _) (by have := idx_length lb q; omega) (by
            rw [hls]
            intro l hl
            obtain ⟨i, hi, rfl⟩ := List.mem_map.1 hl
            have hi2 := (idx_mem.1 hi).1
            refine H8.out _ ?_
            show ((lsOf R)[i]?).getD [] ∈ lsOf R
            rw [List.getElem?_eq_getElem hi2]
            exact List.getElem_mem _)
          have HFR := hide hfr
          have HFF := hide (show front (lsOf ((idx lb q).map fun i => R.getD i default)) ((idx lb q).map fun i => R.getD i default).length = cst (frn (lsOf R) lb) from by
            rw [hls, show ((idx lb q).map fun i => R.getD i default).length = (rest (lsOf R) lb).length from by rw [← hls]; simp [lsOf]]
            exact front_frn _ _)
          have hFl : (frn (lsOf R) lb).length ≤ 25 := by
            have h1 := List.length_filter_le (fun j => !beaten (rest (lsOf R) lb) ((rest (lsOf R) lb).getD j [])) (List.range (rest (lsOf R) lb).length)
            have h2 : (rest (lsOf R) lb).length = (idx lb (lsOf R).length).length := List.length_map _
            have h3 := idx_length lb (lsOf R).length
            rw [HLN.out] at h2 h3
            rw [List.length_range] at h1
            exact Nat.le_trans h1 (by rw [h2]; omega)
          subst h7
          clear hrws hfr hls hr7 hlq hbB hRR
          have HA := hide (HOA.out.shape)
          go_wp2_with (go_at_call 55; refine (HFR.out).mono ?_; rintro e w14 ⟨v, rfl, hown14, hb14⟩; rw [HFF.out] at hown14; obtain ⟨A14, c14, rfl, hc14, hr14⟩ := hown14.shape; rw [show (cst (frn (lsOf R) lb)).length = (frn (lsOf R) lb).length from List.length_map _] at hown14 hc14 hr14 ⊢; have HF14 := hide hown14; have HR14 := hide hr14; have HB14 := hide hb14; clear hown14 hb14 hr14)
          have HS1 := hide ((HQ1.out.below HBX.out).below HB14.out)
          have HS2 := hide ((HQ2.out.below HBX.out).below HB14.out)
          have HOA14 := hide (HOA.out.below HB14.out)
          have HBF := hide ((HBE.out.trans (HBX.out.mono hzw)).trans (HB14.out.mono (Nat.le_trans hzw HBX.out.size)))
          have hz14 : w.heap.size + 2 ≤ w14.heap.size := by have := HB14.out.size; omega
          obtain ⟨A8, c8, h8', hc8, -⟩ := HOA14.out.shape
          rw [show (cst (idx lb q)).length = (idx lb q).length from List.length_map _] at h8' hc8
          subst h8'
          have HOA14 := hide HOA14.out
          generalize hFN : frn (lsOf R) lb = F at *
          have HFN := hide hFN
          have HCnt := hide (HC.out)
          rw [HC.out]
          clear hFN HFR HFF HOR HA
          go_loopw [6, 49] (fun s6 s49 wx => StRel (frs (lsOf R) lb) t lb lo q F.length w.heap.size w.heap.size w14 s6 s49 wx) (fun _ s49 _ => F.length - (intOf s49).toNat)
          case atStart => exact ⟨0, lb, lo, Nat.zero_le _, rfl, rfl, Stp.start _ _ (by rw [HLO.out, HLB.out]), HS1.out, HS2.out, Only.refl _ _ _⟩
          case round =>
            obtain ⟨m, lb', lo', hm, rfl, rfl, hst, hs1, hs2, hon⟩ := hrel
            have HST := hide hst
            have HON := hide hon
            have hF1 := HF14.out.only hon (fun k hk => by have := HF14.out.row.lt k hk; omega)
            have hA1 := HOA14.out.only hon (fun k hk => by have := HOA14.out.row.lt k hk; omega)
            have HW1 := hide hs1
            have HW2 := hide hs2
            by_cases hlt : m < F.length
            · obtain ⟨j, hj⟩ : ∃ j, F[m]? = some j := ⟨_, List.getElem?_eq_getElem hlt⟩
              have hjF : j ∈ frn (lsOf R) lb := by rw [HFN.out]; exact List.mem_of_getElem? hj
              have hjl := frn_lt hjF
              rw [HLN.out] at hjl
              obtain ⟨x, hx⟩ : ∃ x, (idx lb q)[j]? = some x := ⟨_, List.getElem?_eq_getElem hjl⟩
              have hxm := idx_mem.1 (List.mem_of_getElem? hx)
              have HS := hide (show (frs (lsOf R) lb)[m]? = some x from by
                unfold frs
                rw [List.getElem?_map, HFN.out, hj, HLN.out]
                simp [List.getD, hx])
              obtain ⟨b1, o1, y1, rfl, hb1, hy1, d0⟩ := (Own.rd hF1 (List.length_map _)).int_at (List.length_map _) hlt
              rw [List.getElem?_map, hj] at hy1
              simp only [Option.map_some, Option.some.injEq] at hy1
              subst hy1
              obtain ⟨b2, o2, y2, rfl, hb2, hy2, d1⟩ := (Own.rd hA1 (List.length_map _)).int_at (List.length_map _) hjl
              rw [List.getElem?_map, hx] at hy2
              simp only [Option.map_some, Option.some.injEq] at hy2
              subst hy2
              have hl1 : (cst lo').length = q := by rw [List.length_map, hst.len.2, HLB.out]
              have hl2 : lb'.length = q := by rw [hst.len.1, HLB.out]
              obtain ⟨z1, -, e1, f1⟩ := hs1.int_at hl1 hxm.1
              obtain ⟨z2, -, e2, f2⟩ := hs2.bool_at hl2 hxm.1
              have HN1 := hide (((hs1.store hl1 x (t : Int)).1).setOther (a := ⟨w.heap.size + 1, x, none⟩) (by simp) (.bool true)).drew
              have HN2 := hide ((hs2.setOther (a := ⟨w.heap.size, x, none⟩) (by simp) (.int .i64 (t : Int))).storeB hl2 hxm.1 true).drew
              have HNO := hide ((hon.set (a := ⟨w.heap.size, x, none⟩) (.inl rfl) (.int .i64 (t : Int))).set (a := ⟨w.heap.size + 1, x, none⟩) (.inr rfl) (.bool true)).drew
              have HNS := hide (hst.next HS.out (frs_rise _ _) (by rw [HLB.out]; exact hxm.1) hxm.2)
              have i0 : (0 : Int) ≤ (m : Int) := by omega
              have hcb : lb'.count true ≤ 25 := Nat.le_trans (List.count_le_length (a := true) (l := lb')) (by omega)
              have i1 : (m : Int) < (F.length : Int) := by omega
              have i2 : (0 : Int) ≤ (j : Int) := by omega
              have i3 : (j : Int) < ((idx lb q).length : Int) := by omega
              have i4 : (0 : Int) ≤ (x : Int) := by omega
              have i5 : (x : Int) < (q : Int) := by omega
              have d0 : wr.cell? ⟨b1, o1 + m, none⟩ = some (.int .i64 (j : Int)) := d0
              have d1 : wr.cell? ⟨b2, o2 + j, none⟩ = some (.int .i64 (x : Int)) := d1
              clear hst hon hF1 hA1 hs1 hs2 hj hjF hx hxm
              go_wp2_with fail
              go_region
              go_wp2_with fail
              go_roundw
              case rel => exact ⟨m + 1, lb'.set x true, lo'.set x t, by omega, by go_num, congrArg (Value.int .i64) (by have h1 := HNS.out.cnt; have h2 := HST.out.cnt; omega), HNS.out, by have := HN1.out; rw [show cst (lo'.set x t) = (cst lo').set x (t : Int) from List.map_set ..]; exact this, HN2.out, HNO.out⟩
              case measure => simp [intOf]; omega
            · obtain rfl : m = F.length := by omega
              have hSl : (frs (lsOf R) lb).length = F.length := by rw [← HFN.out]; exact List.length_map _
              have hpos := frs_pos (ls := lsOf R) (lb := lb) (by rw [HLB.out, HLN.out]) (by rw [HLB.out, ← HC.out]; exact hgo)
              rw [hSl] at hpos
              have hlay2 := HST.out
              rw [← hSl] at hlay2
              have HLY := hide (hlay2.lay (by rw [HLB.out, HLN.out]) HLAY.out)
              have hcnt := HST.out.cnt
              rw [← HC.out] at hcnt
              have HNC := hide hcnt
              have hb2 := hon.below (B := w.heap.size) (Nat.le_refl _) (by omega) (by omega)
              have HBZ := hide (HBF.out.trans hb2)
              have hsz2 : w.heap.size + 2 ≤ wr.heap.size := by have := hon.size; omega
              have ht25 : t ≤ 25 := by omega
              have hl1 : lo'.length = q := by rw [hst.len.2, HLB.out]
              have hl2 : lb'.length = q := by rw [hst.len.1, HLB.out]
              have HL12 := hide (show lo'.length = q ∧ lb'.length = q from ⟨hl1, hl2⟩)
              clear hst hon hF1 hA1 hs1 hs2 hSl hlay2 hb2 hl1 hl2 hcnt
              go_wp2_with fail
              go_roundw
              case rel => exact ⟨t + 1, lb', lo', by go_num, rfl, HL12.out.2, HL12.out.1, HLY.out, by rw [HNC.out]; omega, HW1.out, HW2.out, HBZ.out, hsz2⟩
              case measure => simp [intOf]; rw [HNC.out]; omega
    · clear HR HQ2
      go_wp2_with fail
      go_ret
      refine ⟨⟨_, lo, rfl, HQ1.out, HLO.out, fun i hi => ?_⟩, HBE.out⟩
      have hall := count_all (lb := lb) (by rw [HLB.out, ← HC.out]; omega)
      have := HLAY.out.told (fun i hi => hall i (by rw [HLB.out]; rw [HLN.out] at hi; exact hi)) (i := i) (by rw [HLN.out]; exact hi)
      rw [HLN.out] at this
      have h3 := (HLAY.out.low i (by rw [HLN.out]; exact hi) (hall i (by rw [HLB.out]; exact hi))).1
      exact ⟨this, by omega⟩
end Go.Proofs.Ytkgkilogjodccaa
