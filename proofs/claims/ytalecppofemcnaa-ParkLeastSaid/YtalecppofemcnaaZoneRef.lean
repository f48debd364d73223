/-
  The walk of the document's own answer: the least by all cuts.
-/
import Derived.Test.YtalecppofemcnaaZone3
import Derived.Deep.OwnRows
import Derived.OneCell
namespace Go.Proofs.Ytalecppofemcnaa
open Go.RowKit HB ZoneP
set_option linter.unusedVariables false
set_option linter.unusedSimpArgs false
namespace ZoneP
/-- a row of n + 1 numbers -/
def tab (n : Nat) (f : Nat → Int) : List Int := (List.range (n + 1)).map f
theorem tab_length (n : Nat) (f : Nat → Int) : (tab n f).length = n + 1 := by simp [tab]
theorem tab_get {n : Nat} {f : Nat → Int} {v : Nat} {x : Int} (h : (tab n f)[v]? = some x) : x = f v := by
  have hv : v < n + 1 := by have := (List.getElem?_eq_some_iff.1 h).1; rwa [tab_length] at this
  simp [tab, hv] at h
  exact h.symm
theorem tab_set (n : Nat) (f : Nat → Int) (v : Nat) (x : Int) : (tab n f).set v x = tab n (fun u => if u = v then x else f u) := by
  apply List.ext_getElem?
  intro i
  rw [List.getElem?_set, tab_length]
  by_cases hi : v = i
  · subst hi
    by_cases hq : v < n + 1 <;> simp [tab, hq]
  · rw [if_neg hi]
    by_cases hn : i < n + 1
    · simp [tab, hn, Ne.symm hi]
    · simp [tab, hn]
theorem tab_congr {n : Nat} {f g : Nat → Int} (h : ∀ v, v ≤ n → f v = g v) : tab n f = tab n g := by
  unfold tab
  apply List.map_congr_left
  intro v hv
  exact h v (by have := List.mem_range.1 hv; omega)
theorem tab_zero (n : Nat) : List.replicate (n + 1) (0 : Int) = tab n (fun _ => 0) := by
  apply List.ext_getElem?
  intro i
  by_cases hi : i < n + 1 <;> simp [tab, hi]
theorem best_zero (l : List Int) : ∀ z, best l z 0 = 0
  | 0 => rfl
  | z + 1 => best_zero l z
end ZoneP
theorem HB.Own.far_ {α : Type} {w : World} {base : Nat} {e : TypeId} {sz : Nat} {f : α → List Value} {v : Value} {l : List α} (h : Own w base e sz f v l) {p : Addr} (hp : v.ownBlock ≠ some p.block) (u : Value) : Own (w.setCell p u) base e sz f v l :=
  ownsRow_setCell_other h hp u
theorem Zone.iinfo : (Try.prog.info? 3).map (fun i => (i.zero, i.size, i.bytes)) = some (some (.int .i64 0), 1, 8) := by kernel_rfl
/-- a row of n + 1 numbers, the call's own, at block g -/
def Zone.Row (w : World) (B g n : Nat) (f : Nat → Int) : Prop := Own w B 3 1 (num .i64) (.slice (some ⟨g, 0, none⟩) (n + 1) (n + 1)) (tab n f) ∧ B ≤ g ∧ g < w.heap.size
theorem Zone.Row.cell {w : World} {B g n : Nat} {f : Nat → Int} (h : Zone.Row w B g n f) {v : Nat} (hv : v ≤ n) : w.cell? ⟨g, v, none⟩ = some (.int .i64 (f v)) ∧ w.frozen? ⟨g, v, none⟩ = false := by
  obtain ⟨x, hx, cx, fx⟩ := h.1.int_at (tab_length _ _) (j := v) (by omega)
  rw [tab_get hx] at cx
  exact ⟨cx, fx⟩
theorem Zone.Row.store {w : World} {B g n : Nat} {f : Nat → Int} (h : Zone.Row w B g n f) (v : Nat) (x : Int) : Zone.Row (w.setCell ⟨g, v, none⟩ (.int .i64 x)) B g n (fun u => if u = v then x else f u) := by
  have h1 := (h.1.store (tab_length _ _) v x).1
  rw [tab_set] at h1
  exact ⟨h1, h.2.1, by simp; exact h.2.2⟩
theorem Zone.Row.far {w : World} {B g n : Nat} {f : Nat → Int} (h : Zone.Row w B g n f) {p : Addr} (hp : g ≠ p.block) (u : Value) : Zone.Row (w.setCell p u) B g n f :=
  ⟨h.1.far_ (by simpa [Value.ownBlock] using hp) u, h.2.1, by simp; exact h.2.2⟩
theorem Zone.Row.alloc {w : World} {B g n : Nat} {f : Nat → Int} (h : Zone.Row w B g n f) (o : Obj) : Zone.Row (w.alloc o) B g n f :=
  ⟨h.1.alloc o, h.2.1, by simp; have := h.2.2; omega⟩
theorem Zone.Row.drew {w : World} {B g n : Nat} {f : Nat → Int} (h : Zone.Row w B g n f) : Zone.Row w.drew B g n f := h
theorem Zone.Row.congr {w : World} {B g n : Nat} {f f' : Nat → Int} (h : Zone.Row w B g n f) (he : ∀ v, v ≤ n → f v = f' v) : Zone.Row w B g n f' := by
  unfold Zone.Row at h ⊢
  rw [← tab_congr he]; exact h
theorem Zone.Row.new (w : World) (B n : Nat) (hB : B ≤ w.heap.size) (hn : n ≤ 1000) : Zone.Row (w.alloc (.cells (madeCells #[.int .i64 0] (n + 1)) 3)) B w.heap.size n (fun _ => 0) := by
  have h := Own.made (base := B) (k := .i64) w 3 (n + 1) hB (by omega)
  rw [tab_zero] at h
  exact ⟨h, hB, by simp⟩

set_option maxRecDepth 100000 in
set_option maxHeartbeats 8000000 in
theorem zone_ref (A : Option Addr) (n c : Nat) (l : List Int) (k : Int) (w : World) (hr : Rd w w.heap.size 1 A n (l.map (Value.int .i64))) (hl : l.length = n) (hok : okW l k = true) (hn40 : n ≤ 40) :
    Calls Try.prog 27 #[.slice A n c, .int .i64 k] w fun e w' => e = .returned (.int .i64 (lst l k.toNat)) ∧ Below w.heap.size w w' := by
  obtain ⟨hn0, -, hk, -⟩ := okW_yes hok
  rw [hl] at hn0
  have hmk := fun (W : World) => run_make_row' (P := Try.prog) 26 3 (.int .i64 0) 8 Try.underlying26 Zone.iinfo rfl .i64 .i64 (n + 1) (by omega) (by omega) W
  simp only [show ((n + 1 : Nat) : Int) = (n : Int) + 1 from by omega] at hmk
  have HMK := hide hmk
  have Hl := hide hl
  have Hok := hide hok
  have HR := hide hr
  have hHH : ∃ K : Nat, K + 1 = min k.toNat n ∧ lst l k.toNat = best l K n := ⟨min k.toNat n - 1, by omega, by unfold lst; rw [hl]⟩
  obtain ⟨K, hK, hLK⟩ := hHH
  have HLK := hide hLK
  have hKn : K + 1 ≤ n := by omega
  have HK := hide (show k ≤ (n : Int) → k = (K : Int) + 1 by omega)
  have HK2 := hide (show (n : Int) < k → n = K + 1 by omega)
  clear hl hok hLK hK hr
  go_enter Try.func27, Try.ntmps27
  have hrow0 := hide (Zone.Row.new w w.heap.size n (Nat.le_refl _) (by omega))
  have hcase : (k ≤ (n : Int) ∧ k ≤ (K : Int) + 1 ∧ (K : Int) + 1 ≤ k) ∨ ((n : Int) < k ∧ n ≤ K + 1) := by
    rcases Int.lt_or_le (n : Int) k with h | h
    · exact .inr ⟨h, by have := HK2.out h; omega⟩
    · exact .inl ⟨h, by have := HK.out h; omega, by have := HK.out h; omega⟩
  rcases hcase with ⟨hk1, hk2, hk3⟩ | ⟨hk1, hk2⟩
  all_goals
    have hmk := HMK.out
    go_wp2_with fail
    clear hmk
    go_loopw [6] (fun i wr => ∃ q : Nat, q ≤ n ∧ i = .int .i64 q ∧ Zone.Row wr w.heap.size w.heap.size n (fun v => if v ≤ q then pre l v else 0) ∧ Below w.heap.size w wr) (fun i _ => n - (intOf i).toNat)
    case atStart => exact ⟨0, Nat.zero_le _, rfl, hrow0.out.congr (fun v _ => by
      by_cases h : v ≤ 0
      · obtain rfl : v = 0 := by omega
        simp [pre]
      · simp [h]), by go_grown⟩
    case round =>
      clear hrow0
      obtain ⟨q, hq, rfl, hrow, hbel⟩ := hrel
      have HROW := hide hrow
      by_cases hlt : q < n
      · obtain ⟨b, off, x, rfl, hb, hg, c0⟩ := (HR.out.below hbel).int_at Hl.out hlt
        have hx := okW_wt Hok.out q
        rw [wt_get hg] at hx
        obtain ⟨x0, x1⟩ := hx
        obtain ⟨p0, p1⟩ := pre_range Hok.out q
        have p2 : pre l q ≤ 134217728 := by omega
        have hE := hide (show pre l (q + 1) = pre l q + x by simp only [pre, wt_get hg])
        obtain ⟨cq, fq⟩ := HROW.out.cell (show q ≤ n by omega)
        obtain ⟨cq1, fq1⟩ := HROW.out.cell (show q + 1 ≤ n by omega)
        simp only [Nat.le_refl, if_true] at cq
        rw [if_neg (by omega)] at cq1
        have hst := hide (HROW.out.store (q + 1) (pre l q + x))
        have e1 : IntKind.i64.wrap ((q : Int) + 1) = (q : Int) + 1 := IntWalk.i64_in _ (by omega)
        have e2 : ((q : Int) + 1).toNat = q + 1 := by omega
        have e3 : (0 : Int) ≤ (q : Int) + 1 := by omega
        have e4 : (q : Int) + 1 < (n : Int) + 1 := by omega
        have e5 : (0 : Int) ≤ (q : Int) := by omega
        have e6 : (q : Int) < (n : Int) := by omega
        have e7 : (q : Int) < (n : Int) + 1 := by omega
        have e8 : IntKind.i64.wrap (pre l q + x) = pre l q + x := IntWalk.i64_in _ (by omega)
        clear hg hrow p1
        generalize hs : pre l q = s at *
        have HS := hide hs
        clear hs
        go_wp2_with fail
        go_region
        all_goals
          clear e1 e2 e3 e4 e5 e6 e7 e8
          go_wp2_with fail
          go_roundw
          case rel => exact ⟨q + 1, by omega, by go_num, hst.out.congr (fun v _ => by
              by_cases h : v = q + 1
              · subst h; simp [hE.out]
              · rw [if_neg h]
                by_cases h2 : v ≤ q
                · rw [if_pos h2, if_pos (by omega)]
                · rw [if_neg h2, if_neg (by omega)]), by go_grown⟩
          case measure => simp [intOf]; omega
      · obtain rfl : q = n := by omega
        have HR0 := hide (show Zone.Row wr w.heap.size w.heap.size q (best l 0) from hrow.congr (fun v hv => by simp only [hv, if_true]; rfl))
        clear hrow HROW
        go_wp2_with fail
        go_loopw [5, 7] (fun s i wr => ∃ z g : Nat, z ≤ K ∧ i = .int .i64 ((z : Int) + 1) ∧ s = .slice (some ⟨g, 0, none⟩) (q + 1) (q + 1) ∧ Zone.Row wr w.heap.size g q (best l z) ∧ Below w.heap.size w wr) (fun _ i _ => K + 1 - (intOf i).toNat)
        case atStart => exact ⟨0, _, Nat.zero_le _, rfl, rfl, HR0.out, hbel⟩
        case round =>
          clear HR0 hbel
          obtain ⟨z, g, hz, rfl, rfl, hrow, hbel⟩ := hrel
          obtain ⟨W2, hW2⟩ : ∃ W2, W2 = wr := ⟨_, rfl⟩
          subst hW2
          have HB := hide hrow
          have hz2 := hbel.size
          have hgs := hrow.2.2
          by_cases hlt2 : z < K
          · have t1 : (z : Int) + 1 < k := by omega
            have t2 : (z : Int) + 1 < (q : Int) := by omega
            clear hrow
            have hmk := HMK.out
            have hnew := hide (Zone.Row.new W2 w.heap.size q hz2 (by omega))
            go_wp2_with fail
            clear hmk t1 t2
            go_loopw [9] (fun i wr => ∃ m : Nat, 1 ≤ m ∧ m ≤ q + 1 ∧ i = .int .i64 m ∧ Zone.Row wr w.heap.size g q (best l z) ∧ Zone.Row wr w.heap.size W2.heap.size q (fun v => if v < m then best l (z + 1) v else 0) ∧ Below w.heap.size w wr) (fun i _ => q + 1 - (intOf i).toNat)
            case atStart => exact ⟨1, Nat.le_refl _, by omega, rfl, HB.out.alloc _, hnew.out.congr (fun v _ => by
                by_cases h : v < 1
                · obtain rfl : v = 0 := by omega
                  simp [best_zero]
                · rw [if_neg h]), hbel.alloc hz2 _⟩
            case round =>
              clear HB hnew hbel
              obtain ⟨m, hm0, hm, rfl, hrow, hrow2, hbel⟩ := hrel
              obtain ⟨W3, hW3⟩ : ∃ W3, W3 = wr := ⟨_, rfl⟩
              subst hW3
              have HB := hide hrow
              have HT := hide hrow2
              by_cases hlt3 : m ≤ q
              · obtain ⟨cm, fm⟩ := HB.out.cell hlt3
                obtain ⟨cT, fT⟩ := HT.out.cell hlt3
                have hst := hide (HT.out.store m (best l z m))
                have hstg := hide (HB.out.far (p := ⟨W2.heap.size, m, none⟩) (by simp; omega) (.int .i64 (best l z m)))
                have hm1 : 1 ≤ (m : Int) := by omega
                clear hrow hrow2
                generalize hbm : best l z m = bm at *
                have HBM := hide hbm
                clear hbm
                go_wp2_with fail
                go_loopw [10, 11] (fun s i wr => ∃ j u1 : Nat, j + u1 = m ∧ s = .int .i64 (pre l m - pre l u1) ∧ i = .int .i64 ((u1 : Int) - 1) ∧ Zone.Row wr w.heap.size g q (best l z) ∧ Zone.Row wr w.heap.size W2.heap.size q (fun v => if v < m then best l (z + 1) v else if v = m then bmin (best l z) l m j else 0) ∧ Below w.heap.size w wr) (fun _ i _ => (intOf i + 1).toNat)
                case atStart => exact ⟨0, m, by omega, by rw [Int.sub_self], rfl, hstg.out, hst.out.congr (fun v _ => by
                    by_cases h : v = m
                    · subst h; simp [bmin, HBM.out]
                    · simp only [if_neg h]), hbel.setCell hz2 _⟩
                case round =>
                  clear HB HT hst hstg hbel HBM
                  obtain ⟨j, u1, hju, rfl, hi, hrow, hrow2, hbel⟩ := hrel
                  have HB := hide hrow
                  have HT := hide hrow2
                  clear hrow hrow2
                  rcases Nat.eq_zero_or_pos u1 with h0 | h0
                  · subst h0
                    obtain rfl : j = m := by omega
                    subst hi
                    go_wp2_with fail
                    go_roundw
                    case rel => exact ⟨j + 1, by omega, by omega, by go_num, HB.out, HT.out.congr (fun v _ => by
                        by_cases h : v < j
                        · rw [if_pos h, if_pos (by omega)]
                        · rw [if_neg h]
                          by_cases h2 : v = j
                          · subst h2; rw [if_pos rfl, if_pos (by omega)]; rfl
                          · rw [if_neg h2, if_neg (by omega)]), hbel⟩
                    case measure => simp [intOf]; omega
                  · obtain ⟨u, rfl⟩ : ∃ u, u1 = u + 1 := ⟨u1 - 1, by omega⟩
                    have hi2 := hi.trans (show Value.int .i64 (((u + 1 : Nat) : Int) - 1) = Value.int .i64 (u : Int) by congr 1; omega)
                    clear hi
                    subst hi2
                    obtain ⟨b, off, x, rfl, hb, hg, c0⟩ := (HR.out.below hbel).int_at Hl.out (show u < q by omega)
                    have hx := okW_wt Hok.out u
                    rw [wt_get hg] at hx
                    obtain ⟨x0, x1⟩ := hx
                    obtain ⟨p0, p1⟩ := pre_range Hok.out m
                    obtain ⟨p3, p4⟩ := pre_range Hok.out (u + 1)
                    have p5 := pre_mono (okW_good Hok.out) (m := u + 1) m (by omega)
                    have hpu := hide (show pre l u + x = pre l (u + 1) by simp only [pre, wt_get hg])
                    have s0 : 0 ≤ pre l m - pre l (u + 1) := by omega
                    have s1 : pre l m - pre l (u + 1) ≤ 134217728 := by omega
                    have hS := hide (show pre l m - pre l (u + 1) + x = pre l m - pre l u by have := hpu.out; omega)
                    generalize hs : pre l m - pre l (u + 1) = S at *
                    have hbn := hide (show bmin (best l z) l m (j + 1) = min (bmin (best l z) l m j) (max (S + x) (best l z u)) by
                      simp only [bmin]
                      rw [show m - 1 - j = u by omega, hS.out])
                    obtain ⟨cu, fu⟩ := HB.out.cell (show u ≤ q by omega)
                    obtain ⟨cT, fT⟩ := HT.out.cell hlt3
                    rw [if_neg (Nat.lt_irrefl _), if_pos rfl] at cT
                    have hnext : ∀ (W : World), (∃ y : Int, y = bmin (best l z) l m (j + 1) ∧ ((W = wr ∧ y = bmin (best l z) l m j) ∨ W = wr.setCell ⟨W2.heap.size, m, none⟩ (.int .i64 y))) → Zone.Row W w.heap.size g q (best l z) ∧ Zone.Row W w.heap.size W2.heap.size q (fun v => if v < m then best l (z + 1) v else if v = m then bmin (best l z) l m (j + 1) else 0) ∧ Below w.heap.size w W := by
                      rintro W ⟨y, hy, ⟨rfl, hy2⟩ | rfl⟩
                      · refine ⟨HB.out, HT.out.congr (fun v _ => ?_), hbel⟩
                        rw [← hy, hy2]
                      · refine ⟨HB.out.far (p := ⟨W2.heap.size, m, none⟩) (by simp; omega) _, (HT.out.store m y).congr (fun v _ => ?_), hbel.setCell hz2 _⟩
                        by_cases h : v = m
                        · subst h; simp [hy]
                        · simp only [if_neg h]
                    have HN := hide hnext
                    clear hg p0 p1 p3 p4 p5 hnext hs
                    generalize best l z u = bu at *
                    generalize hcur : bmin (best l z) l m j = cur at *
                    rcases (show (bu ≤ S + x ∧ cur ≤ S + x) ∨ (bu ≤ S + x ∧ S + x < cur) ∨ (S + x < bu ∧ cur ≤ bu) ∨ (S + x < bu ∧ bu < cur) by omega) with ⟨g1, g2⟩ | ⟨g1, g2⟩ | ⟨g1, g2⟩ | ⟨g1, g2⟩
                    · have hn := hide (HN.out wr ⟨cur, by rw [hbn.out]; omega, .inl ⟨rfl, rfl⟩⟩)
                      clear HN hbn hcur
                      go_wp2_with fail
                      go_roundw
                      case rel => exact ⟨j + 1, u, by omega, by rw [hS.out], rfl, hn.out⟩
                      case measure => simp [intOf]
                    · have hn := hide (HN.out _ ⟨S + x, by rw [hbn.out]; omega, .inr rfl⟩)
                      clear HN hbn hcur
                      go_wp2_with fail
                      go_roundw
                      case rel => exact ⟨j + 1, u, by omega, by rw [hS.out], rfl, hn.out⟩
                      case measure => simp [intOf]
                    · have hn := hide (HN.out wr ⟨cur, by rw [hbn.out]; omega, .inl ⟨rfl, rfl⟩⟩)
                      clear HN hbn hcur
                      go_wp2_with fail
                      go_roundw
                      case rel => exact ⟨j + 1, u, by omega, by rw [hS.out], rfl, hn.out⟩
                      case measure => simp [intOf]
                    · have hn := hide (HN.out _ ⟨bu, by rw [hbn.out]; omega, .inr rfl⟩)
                      clear HN hbn hcur
                      go_wp2_with fail
                      go_roundw
                      case rel => exact ⟨j + 1, u, by omega, by rw [hS.out], rfl, hn.out⟩
                      case measure => simp [intOf]
              · obtain rfl : m = q + 1 := by omega
                have HT2 := hide (HT.out.congr (f' := best l (z + 1)) (fun v hv => by rw [if_pos (by omega)]))
                clear hrow hrow2 HT
                have m1 : ((q + 1 : Nat) : Int) = (q : Int) + 1 := by omega
                go_wp2_with fail
                go_roundw
                case rel => exact ⟨z + 1, _, by omega, by go_num, rfl, HT2.out, hbel⟩
                case measure => simp [intOf]; omega
          · obtain rfl : z = K := by omega
            obtain ⟨cn, fn⟩ := HB.out.cell (Nat.le_refl q)
            clear hrow
            go_wp2_with fail
            go_ret
            exact ⟨ret_int (by rw [HLK.out]), hbel⟩
end Go.Proofs.Ytalecppofemcnaa
