/-
  The law PackReads holds: whatever the bytes, the kinds and the bound, the call returns true and turns nothing. No condition.
-/
import Derived.Test.YtknmpfimnbenjaaRows
import Derived.Test.YtknmpfimnbenjaaFrame
import Derived.Test.YtknmpfimnbenjaaPackStep
import Derived.Deep.DeepCutAuto
namespace Go.Proofs.Ytknmpfimnbenjaa
open Go.ChangeShapes Go.WideShapes Go.ChangeAt Go.RowKit HB PackP
set_option linter.unusedVariables false
set_option linter.unusedSimpArgs false

theorem rbad_true {l : List Int} (hb : ∀ x ∈ l, 0 ≤ x ∧ x < 256) (h : rbad l = true) : cnt l = 0 ∨ (cnt l ≠ 0 ∧ cnt l < l.length) := by
  rcases cnt_split l false hb with ⟨h1, h2, h3, h4⟩ | ⟨h1, h2, h3, h4⟩
  · exact .inl h1
  · right
    unfold rbad at h
    rw [h4, h3, List.length_drop] at h
    simp at h
    omega
theorem rbad_false {l : List Int} (hb : ∀ x ∈ l, 0 ≤ x ∧ x < 256) (h : rbad l = false) : cnt l ≠ 0 ∧ cnt l = l.length := by
  rcases cnt_split l false hb with ⟨h1, h2, h3, h4⟩ | ⟨h1, h2, h3, h4⟩
  · unfold rbad at h
    rw [h4] at h
    simp at h
  · unfold rbad at h
    rw [h4, h3, List.length_drop] at h
    simp at h
    omega
def ReadsQ (w : World) (e : Ending) (w' : World) : Prop := e = .returned (.bool true) ∧ Below w.heap.size w w'
set_option maxRecDepth 100000 in
set_option maxHeartbeats 8000000 in
theorem packReads_main (A A' : Option Addr) (n c m c' : Nat) (l ks : List Int) (most : Int) (w : World) (hr : Rd w w.heap.size 1 A n (l.map (Value.int .u8))) (hl : l.length = n) (hc : n ≤ c) (hr' : Rd w w.heap.size 1 A' m (ks.map (Value.int .i64))) (hl' : ks.length = m) (hb : ∀ x ∈ l, 0 ≤ x ∧ x < 256) (hn : n ≤ 500) (hm : m ≤ 50) (hm0 : -9223372036854775808 ≤ most) (hm1 : most ≤ 9223372036854775807) :
    Calls Try.prog 5 #[.slice A n c, .slice A' m c', .int .i64 most] w (ReadsQ w) := by
  have H1 := hide (pack_read A n c w.heap.size l w hc hl hr (Nat.le_refl _) hb (by omega))
  have H2 := hide (fun W (h : Below w.heap.size w W) => ref_num A n c w.heap.size l W hc hl (hr.below h) h.size hb (by omega))
  have H3 := hide (fun W (h : Below w.heap.size w W) => reader_make A n c w.heap.size l W hc hl (hr.below h) h.size)
  have H4 := hide (fun W (h : Below w.heap.size w W) => Rr.new (w := W) 51 hc hl (hr.below h) h.size)
  have hsp := fun (h : rbad l = true) => rbad_true hb h
  have hsp2 := fun (h : rbad l = false) => rbad_false hb h
  rw [hl] at hsp hsp2
  have HB := hide hb
  have HRK := hide hr'
  have Hl := hide hl
  have Hl' := hide hl'
  clear hr hr' hl hl' hb
  obtain ⟨v0, e0, b0, HV, H1'⟩ : ∃ (v0 : Nat) (e0 : Int) (b0 : Bool), Hid ((b0 = true → v0 = 0 ∧ e0 = 20 ∧ (cnt l = 0 ∨ (cnt l ≠ 0 ∧ cnt l < n))) ∧ (b0 = false → v0 = nv l ∧ e0 = 0 ∧ cnt l ≠ 0 ∧ cnt l = n)) ∧ Hid (Calls Try.prog 27 #[.slice A n c] w fun e w' => e = .returned (.tuple #[.int .u64 (v0 : Nat), .int .i64 e0]) ∧ Below w.heap.size w w') := by
    cases hbad : rbad l with
    | true =>
      rw [hbad, if_pos rfl, if_pos rfl] at H1
      exact ⟨0, 20, true, hide ⟨fun _ => ⟨rfl, rfl, hsp hbad⟩, fun h => (by cases h)⟩, H1⟩
    | false =>
      rw [hbad, if_neg (by decide), if_neg (by decide)] at H1
      exact ⟨nv l, 0, false, hide ⟨fun h => (by cases h), fun _ => ⟨rfl, rfl, hsp2 hbad⟩⟩, H1⟩
  clear hsp hsp2 H1
  generalize nv l = v at *
  generalize cnt l = ct at *
  go_enter Try.func5, Try.ntmps5
  go_upto_region 5 with (first | (go_at_call 27; refine (H1'.out).mono ?_; rintro e w1 ⟨rfl, hb1⟩) | (go_at_call 28; refine (H2.out _ hb1).mono ?_; rintro e w2 ⟨rfl, hb2⟩; have hb3 := then_ hb1 hb2 (Nat.le_refl _); clear hb1 hb2))
  go_cut [10, 39] (fun s10 s wx => s10 = .int .i64 ct ∧ s = .bool b0 ∧ wx = w2)
  case first =>
    cases b0 with
    | true =>
      obtain ⟨-, -, hs⟩ := HV.out.1 rfl
      rcases hs with hs | ⟨hs1, hs2⟩
      · go_wp2_with fail
        go_meet
        exact ⟨by simp [hs], rfl, rfl⟩
      · have hct : ((ct : Int) == 0) = false := by simp; omega
        have hct2 : (ct : Int) < (n : Int) := by omega
        go_wp2_with fail
        go_meet
        exact ⟨rfl, by simp [hct2], rfl⟩
    | false =>
      obtain ⟨-, -, hs1, hs2⟩ := HV.out.2 rfl
      have hct : ((ct : Int) == 0) = false := by simp; omega
      have hct2 : ¬ (ct : Int) < (n : Int) := by omega
      clear hs1 hs2
      go_wp2_with fail
      go_meet
      exact ⟨rfl, rfl, rfl⟩
  case rest =>
    obtain ⟨rfl, rfl, rfl⟩ := hcut
    go_upto_if 39 with fail
    go_cut [7, 8, 9, 10, 39] (fun _ _ _ _ _ wx => wx = wc)
    case first =>
      cases b0 with
      | true =>
        obtain ⟨h1, h2, -⟩ := HV.out.1 rfl
        subst h1
        subst h2
        go_wp2_with fail
        go_meet
        rfl
      | false =>
        obtain ⟨h1, h2, -⟩ := HV.out.2 rfl
        subst h1
        subst h2
        go_wp2_with fail
        go_meet
        rfl
    case rest =>
      subst hcut
      clear HV H1' H2
      go_upto_region 11 with (go_at_call 22; refine (H3.out _ hb3).mono ?_; rintro e w3 ⟨rfl, hrp, hb4⟩)
      have hb5 := then_ hb3 hb4 (Nat.le_refl _)
      have hrq := H4.out _ hb5
      have hrp2 := (hrp.below ((Below.refl _ _).alloc (Nat.le_refl _) (.cells #[.slice A n c, .bool false] 51)) hrp.hp)
      have hb6 := hb5.alloc hb5.size (.cells #[.slice A n c, .bool false] 51)
      have hz2 := hb3.size
      have hz3 : wc.heap.size < w3.heap.size := hrp.hp
      generalize hp : wc.heap.size = p at *
      generalize hq : w3.heap.size = q at *
      have HPQ := hide (show p ≠ q ∧ w.heap.size ≤ p ∧ w.heap.size ≤ q by omega)
      clear hp hq hz2 hz3 H3 H4 hb3 hb4 hb5 hrp
      generalize w3.alloc (.cells #[.slice A n c, .bool false] 51) = w4 at *
      go_wp2_with fail
      go_loopw [13] (fun i wr => ∃ (k : Nat) (l' : List Int) (bad' : Bool), k ≤ m ∧ i = .int .i64 k ∧ Rr wr p w.heap.size l' bad' ∧ Rr wr q w.heap.size l' bad' ∧ (∀ x ∈ l', x ∈ l) ∧ l'.length ≤ n ∧ Below w.heap.size w wr) (fun i _ => m - (intOf i).toNat)
      case atStart => exact ⟨0, l, false, Nat.zero_le _, rfl, hrp2, hrq, fun x h => h, by rw [Hl.out]; exact Nat.le_refl _, hb6⟩
      case round =>
        obtain ⟨k, l', bad', hk, rfl, hrp', hrq', hsub, hlen, hbel⟩ := hrel
        clear hrp2 hrq hb6
        have HBEL := hide hbel
        by_cases hlt : k < m
        · obtain ⟨b3, off3, x, rfl, hb33, hg3, cx⟩ := (HRK.out.below hbel).int_at Hl'.out hlt
          clear hg3
          by_cases hx0 : x < 0
          · go_wp2_with fail
            go_ret
            exact ⟨rfl, HBEL.out⟩
          · have hbd := (Below.refl wr.heap.size wr).drew
            have hstep := hide (pack_step p q w.heap.size w.heap.size l' bad' x most wr.drew (hrp'.below hbd hrp'.hp) (hrq'.below hbd hrq'.hp) HPQ.out.1 HPQ.out.2.1 HPQ.out.2.2 (fun y hy => HB.out y (hsub y hy)) (by omega) (by omega) hm0 hm1)
            have HSUB := hide hsub
            have i0 : (0 : Int) ≤ (k : Int) := by omega
            have i1 : (k : Int) < (m : Int) := by omega
            clear hsub hrp' hrq' hbel
            clear hbd
            go_upto_region 18 with fail
            go_cut [98] (fun s wx => s = .bool false ∧ ∃ (l2 : List Int) (bad2 : Bool), Rr wx p w.heap.size l2 bad2 ∧ Rr wx q w.heap.size l2 bad2 ∧ (∀ x ∈ l2, x ∈ l) ∧ l2.length ≤ n ∧ Below w.heap.size w wx)
            case first =>
              clear HB Hl Hl' HRK
              go_region_with (first | (go_at_call 29; refine (hstep.out).mono ?_; (rintro e w4 ⟨rfl, ⟨l2, bad2, hrp4, hrq4, hsub4, hlen4⟩, hb4⟩; obtain ⟨A2, n2, c2, e1, e2, e3, d0⟩ := hrq4.c0; subst e2; have d1 := hrq4.c1; have HLL := hide (reader_left p _ l2 bad2 w4 hrp4); have HBB := hide (reader_bad p _ l2 bad2 w4 hrp4); have HFF := hide (show Rr w4 p w.heap.size l2 bad2 ∧ Rr w4 q w.heap.size l2 bad2 ∧ (∀ x ∈ l2, x ∈ l) ∧ l2.length ≤ n ∧ Below w.heap.size w w4 from ⟨hrp4, hrq4, fun y hy => HSUB.out y (hsub4 y hy), (by omega), HBEL.out.drew.trans hb4⟩); clear e3 hstep cx hrp4 hrq4 hsub4 hlen4 hb4)) | (go_at_call 25; refine (HLL.out).mono ?_; rintro e w5 ⟨rfl, rfl⟩) | (go_at_call 26; refine (HBB.out).mono ?_; rintro e w6 ⟨rfl, rfl⟩))
              all_goals (go_wp2_with fail; go_meet; exact ⟨rfl, l2, bad2, HFF.out⟩)
            case rest =>
              obtain ⟨rfl, l2, bad2, g1, g2, g3, g4, g5⟩ := hcut
              clear hstep cx HSUB HBEL
              have HG := hide g3
              have HR1 := hide g1
              have HR2 := hide g2
              have HB5 := hide g5
              clear g1 g2 g3 g5
              go_wp2_with fail
              go_roundw
              case rel => exact ⟨k + 1, l2, bad2, by omega, by go_num, HR1.out, HR2.out, HG.out, g4, HB5.out⟩
              case measure => simp [intOf]; omega
        · obtain rfl : k = m := by omega
          go_wp2_with (go_at_call 21; refine (pack_alive _).mono ?_; rintro e w9 ⟨rfl, hb9⟩)
          go_ret
          exact ⟨rfl, then_ HBEL.out hb9 (Nat.le_refl _)⟩
theorem packReads_all (A A' : Option Addr) (n c m c' : Nat) (l ks : List Int) (most : Int) (w : World) (hr : Rd w w.heap.size 1 A n (l.map (Value.int .u8))) (hl : l.length = n) (hc : n ≤ c) (hr' : Rd w w.heap.size 1 A' m (ks.map (Value.int .i64))) (hl' : ks.length = m) (hw : ∀ x ∈ l, (Lit.int .u8 x).wf = true) (hM : (Lit.int .i64 most).wf = true) :
    Calls Try.prog 5 #[.slice A n c, .slice A' m c', .int .i64 most] w (ReadsQ w) := by
  by_cases h : 500 < n ∨ (n ≤ 500 ∧ 50 < m)
  · clear hr hl hw hr' hl' hM
    rcases h with h | ⟨h, h'⟩
    all_goals
      go_enter Try.func5, Try.ntmps5
      go_wp2_with fail
      go_ret
      exact ⟨rfl, Below.refl _ _⟩
  · have h1 := bounds_i64 hM
    exact packReads_main A A' n c m c' l ks most w hr hl hc hr' hl' (fun x hx => by have := bounds_u8 (hw x hx); omega) (by omega) (by omega) h1.1 h1.2

set_option maxRecDepth 100000 in
theorem packReads_lifted (os : Os) (started : os.Started) (H : Type) (enc : TypeId × Value → H) :
    ReturnsInHanded {} Try.checked os 5 .any (Rows.packReadsSpec.pre6 enc Try.prog Try.f5 [] false) (Rows.packReadsSpec.post enc Try.prog Try.f5 false true false false) := by
  refine law_lifted (C := Try.checked) Try.own started (by kernel_rfl) Try.func5
    (ChangeSpec.witness6 (enc := enc) (C := Try.checked) false ⟨#[], #[.slice none 0 0, .slice none 0 0, .int .i64 0], []⟩ 8 (by kernel_rfl) (by kernel_rfl) (by kernel_rfl) (by kernel_rfl))
    Try.laidOut (show ∀ t ∈ [22, 43, 3], Try.prog.readableRec t = true ∧ t < Try.prog.types.size from by
      intro t ht; simp only [List.mem_cons, List.not_mem_nil, or_false] at ht; rcases ht with rfl | rfl | rfl <;> exact ⟨by kernel_rfl, of_decide_eq_true (by kernel_rfl)⟩) (tb := 4) (by kernel_rfl) Try.underlying4 rfl (fun ds hd => ?_) ?_
  · match ds, hd with
    | [_, _, _], _ => rfl
  · intro W base args ds p hval hA
    have hval' : ∀ (j : Nat) t v, Try.f5.params[j]? = some t → args[j]? = some v → Value.okWide Try.prog W .any base t v := hval
    rw [Try.params5] at hA hval'
    obtain ⟨v0, v1, v2, d0, d1, d2, p0, p1, p2, rfl, rfl, rfl, h0, h1, h2⟩ := trodAll_three hA
    obtain ⟨A, n, c, l, rfl, hl, hcA, hcB, hw, hr⟩ := arg_ints Try.underlying22 Try.underlying5 (by kernel_rfl) (hval' 0 _ _ rfl rfl) h0
    obtain ⟨A', m, c', ks, rfl, hl', hcA', hcB', hw', hr'⟩ := arg_ints Try.underlying43 Try.underlying3 (by kernel_rfl) (hval' 1 _ _ rfl rfl) h1
    obtain ⟨most, rfl, w2⟩ := arg_int Try.underlying3 (hval' 2 _ _ rfl rfl) h2
    exact packReads_all A A' n c m c' l ks most W hr hl hcA hr' hl' hw w2

theorem packReads_holds : Rows.PackReadsSaid :=
  OpenClaim.holds_of_wide 5 Try.f5 rfl rfl rfl rfl rfl rfl rfl ⟨rfl, rfl, rfl, rfl, rfl⟩ rfl rfl rfl rfl rfl (by kernel_rfl) Try.func5 (by kernel_rfl)
    (of_decide_eq_true (by kernel_rfl)) (by unfold Func.isWrapper; first | (rw [if_pos (by decide +kernel)]; kernel_rfl) | (rw [if_neg (by decide +kernel)]; exact ⟨rfl, rfl⟩))
    (fun os started H enc _ => packReads_lifted os started H enc)
#print axioms packReads_holds
end Go.Proofs.Ytknmpfimnbenjaa
