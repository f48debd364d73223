/-
  The law ZoneWeighs holds: whatever the weights, the zones and the floor, the call returns true and turns nothing. No condition.
-/
import Derived.Test.YtalecppofemcnaaRows
import Derived.Test.YtalecppofemcnaaFrame
import Derived.Test.YtalecppofemcnaaZone3
namespace Go.Proofs.Ytalecppofemcnaa
open Go.ChangeShapes Go.WideShapes Go.ChangeAt Go.RowKit HB ZoneP
set_option linter.unusedVariables false
set_option linter.unusedSimpArgs false

namespace ZoneP
theorem ofz_lo (f : Int) : ∀ (L : List (Int × Int)) (s : Nat), ofz L f s = -1 ∨ (0 ≤ ofz L f s ∧ ofz L f s < s + L.length)
  | [], s => .inl rfl
  | p :: L, s => by
    simp only [ofz]
    split
    · right; simp only [List.length_cons]; omega
    · rcases ofz_lo f L (s + 1) with h | ⟨h, h'⟩
      · exact .inl h
      · right; simp only [List.length_cons]; omega
theorem ofz_snoc (f : Int) (p : Int × Int) : ∀ (L : List (Int × Int)) (s : Nat), ofz (L ++ [p]) f s = if ofz L f s < 0 then (if p.1 ≤ f ∧ f < p.2 then ((s + L.length : Nat) : Int) else -1) else ofz L f s
  | [], s => by simp [ofz]
  | q :: L, s => by
    have ih := ofz_snoc f p L (s + 1)
    by_cases h : q.1 ≤ f ∧ f < q.2
    · have a : ofz (q :: L) f s = s := by simp [ofz, h]
      have b : ofz (q :: L ++ [p]) f s = s := by simp [ofz, h]
      rw [a, b, if_neg (by omega)]
    · have a : ofz (q :: L) f s = ofz L f (s + 1) := by simp only [ofz, if_neg h]
      have b : ofz (q :: L ++ [p]) f s = ofz (L ++ [p]) f (s + 1) := by simp only [List.cons_append, ofz, if_neg h]
      rw [a, b, ih, List.length_cons, show s + 1 + L.length = s + (L.length + 1) by omega]
end ZoneP
set_option maxRecDepth 100000 in
set_option maxHeartbeats 8000000 in
theorem zoneWeighs_small (A A' : Option Addr) (n c m c' : Nat) (l : List Int) (L : List (Int × Int)) (f : Int) (w : World) (hr : Rd w w.heap.size 1 A n (l.map (Value.int .i64))) (hl : l.length = n) (hr' : Rd w w.heap.size 2 A' m (L.flatMap spn)) (hl' : L.length = m) (hn : n ≤ 200) (hm : m ≤ 60) :
    Calls Try.prog 8 #[.slice A n c, .slice A' m c', .int .i64 f] w fun e w' => e = .returned (.bool true) ∧ Below w.heap.size w w' := by
  have Hl := hide hl
  have HR := hide hr
  have Hl' := hide hl'
  have HR' := hide hr'
  have d3 : decide (200 < n) = false := by simp; omega
  have d4 : decide (60 < m) = false := by simp; omega
  clear hl hr hl' hr'
  go_enter Try.func8, Try.ntmps8
  go_wp2_with fail
  go_loopw [7, 8] (fun v i wr => ∃ q : Nat, q ≤ m ∧ i = .int .i64 q ∧ v = .int .i64 (ofz (L.take q) f 0) ∧ Below w.heap.size w wr) (fun _ i _ => m - (intOf i).toNat)
  case atStart => exact ⟨0, Nat.zero_le _, rfl, rfl, Below.refl _ _⟩
  case round =>
    obtain ⟨q, hq, rfl, rfl, hbel⟩ := hrel
    obtain ⟨W1, hW1⟩ : ∃ W1, W1 = wr := ⟨_, rfl⟩
    subst hW1
    have hz := hbel.size
    have HRa := hide (HR.out.below hbel)
    have HRb := hide (HR'.out.below hbel)
    by_cases hlt : q < m
    · obtain ⟨b, off, x, y, rfl, hb, hg, cx, cy⟩ := HRb.out.span_at Hl'.out hlt
      have hsn := ofz_snoc f (x, y) (L.take q) 0
      have htk : L.take (q + 1) = L.take q ++ [(x, y)] := by rw [List.take_add_one, hg]; rfl
      rw [← htk] at hsn
      have hlo := ofz_lo f (L.take q) 0
      rw [List.length_take, Hl'.out, Nat.min_eq_left hq] at hlo hsn
      have hq2 : q ≤ 60 := by omega
      have HS := hide hsn
      generalize ofz (L.take q) f 0 = v at *
      clear hg htk hsn
      go_wp2_with fail
      go_loop [9, 10] (fun s i => ∃ p : Nat, p ≤ n ∧ i = .int .i64 p ∧ s = .int .i64 (wsum l x y p)) (fun _ i => n - (intOf i).toNat)
      case atStart => exact ⟨0, Nat.zero_le _, rfl, rfl⟩
      case round =>
        obtain ⟨p, hp, rfl, rfl⟩ := hrel
        by_cases hlt2 : p < n
        · obtain ⟨b1, off1, z, rfl, hb1, hg, c0⟩ := HRa.out.int_at Hl.out hlt2
          have hst := hide (show wsum l x y (p + 1) = if x ≤ p ∧ (p : Int) < y then wrap64 (wsum l x y p + z) else wsum l x y p by simp only [wsum, wt_get hg])
          generalize wsum l x y p = s at *
          clear hg
          rcases (show (p : Int) < x ∨ (x ≤ p ∧ y ≤ p) ∨ (x ≤ p ∧ (p : Int) < y) by omega) with h | ⟨h, h'⟩ | ⟨h, h'⟩
          · have d1 : decide (x ≤ (p : Int)) = false := by simp; omega
            have hE := hide (show wsum l x y (p + 1) = s by rw [hst.out, if_neg (by omega)])
            clear hst
            go_wp2_with fail
            go_round
            case rel => exact ⟨p + 1, by omega, by go_num, by rw [hE.out]⟩
            case measure => simp [intOf]; omega
          · have d1 : decide (x ≤ (p : Int)) = true := by simp; omega
            have d2 : decide ((p : Int) < y) = false := by simp; omega
            have hE := hide (show wsum l x y (p + 1) = s by rw [hst.out, if_neg (by omega)])
            clear hst
            go_wp2_with fail
            go_round
            case rel => exact ⟨p + 1, by omega, by go_num, by rw [hE.out]⟩
            case measure => simp [intOf]; omega
          · have d1 : decide (x ≤ (p : Int)) = true := by simp; omega
            have d2 : decide ((p : Int) < y) = true := by simp; omega
            have hE := hide (show wsum l x y (p + 1) = wrap64 (s + z) by rw [hst.out, if_pos ⟨h, h'⟩])
            clear hst
            go_wp2_with fail
            go_round
            case rel => exact ⟨p + 1, by omega, by go_num, by rw [hE.out]⟩
            case measure => simp [intOf]; omega
        · obtain rfl : p = n := by omega
          have hC := hide (zone_weigh A p c w.heap.size l x y W1 HRa.out hz Hl.out (by omega))
          have hself : (wsum l x y p != wsum l x y p) = false := by simp
          have hbz := sizes (show b < W1.heap.size by omega)
          have hbn : W1.heap.size ≠ b := by omega
          have hbn2 : b ≠ W1.heap.size := by omega
          generalize wsum l x y p = s at *
          rcases (show 0 ≤ v ∨ (v < 0 ∧ f < x) ∨ (v < 0 ∧ x ≤ f ∧ y ≤ f) ∨ (v < 0 ∧ x ≤ f ∧ f < y) by omega) with h | ⟨h, h'⟩ | ⟨h, h', h''⟩ | ⟨h, h', h''⟩
          · have d1 : decide (v < 0) = false := by simp; omega
            have hE := hide (show ofz (L.take (q + 1)) f 0 = v by rw [HS.out, if_neg (by omega)])
            clear HS
            go_wp2_with (go_at_call 28; refine (hC.out).mono ?_; rintro e w1 ⟨rfl, rfl⟩)
            go_roundw
            case rel => exact ⟨q + 1, by omega, by go_num, by rw [hE.out], hbel.alloc hz _⟩
            case measure => simp [intOf]; omega
          · have d1 : decide (v < 0) = true := by simp; omega
            have d2 : decide (x ≤ f) = false := by simp; omega
            have hE := hide (show ofz (L.take (q + 1)) f 0 = v by rw [HS.out, if_pos h, if_neg (show ¬ (x ≤ f ∧ f < y) by omega)]; omega)
            clear HS
            go_wp2_with (go_at_call 28; refine (hC.out).mono ?_; rintro e w1 ⟨rfl, rfl⟩)
            go_roundw
            case rel => exact ⟨q + 1, by omega, by go_num, by rw [hE.out], hbel.alloc hz _⟩
            case measure => simp [intOf]; omega
          · have d1 : decide (v < 0) = true := by simp; omega
            have d2 : decide (x ≤ f) = true := by simp; omega
            have d5 : decide (f < y) = false := by simp; omega
            have hE := hide (show ofz (L.take (q + 1)) f 0 = v by rw [HS.out, if_pos h, if_neg (show ¬ (x ≤ f ∧ f < y) by omega)]; omega)
            clear HS
            go_wp2_with (go_at_call 28; refine (hC.out).mono ?_; rintro e w1 ⟨rfl, rfl⟩)
            go_roundw
            case rel => exact ⟨q + 1, by omega, by go_num, by rw [hE.out], hbel.alloc hz _⟩
            case measure => simp [intOf]; omega
          · have d1 : decide (v < 0) = true := by simp; omega
            have d2 : decide (x ≤ f) = true := by simp; omega
            have d5 : decide (f < y) = true := by simp; omega
            have hE := hide (show ofz (L.take (q + 1)) f 0 = (q : Int) by rw [HS.out, if_pos h, if_pos (show x ≤ f ∧ f < y from ⟨h', h''⟩), Nat.zero_add])
            clear HS
            go_wp2_with (go_at_call 28; refine (hC.out).mono ?_; rintro e w1 ⟨rfl, rfl⟩)
            go_roundw
            case rel => exact ⟨q + 1, by omega, by go_num, by rw [hE.out], hbel.alloc hz _⟩
            case measure => simp [intOf]; omega
    · obtain rfl : q = m := by omega
      have hC := zone_of A' q c' w.heap.size L f W1 HRb.out hz Hl'.out (by omega)
      have htk : L.take q = L := List.take_of_length_le (by rw [Hl'.out]; omega)
      rw [htk]
      have hself : (ofz L f 0 == ofz L f 0) = true := by simp
      generalize ofz L f 0 = v at *
      have HC := hide hC
      clear hC htk
      go_wp2_with (first
        | (go_at_call 29; refine (HC.out).mono ?_; rintro e w1 ⟨rfl, hb1⟩)
        | (go_at_call 26; refine (zone_alive _).mono ?_; rintro e w9 ⟨rfl, hb9⟩))
      go_ret
      exact ⟨rfl, then_ (then_ hbel hb1 (Nat.le_refl _)) hb9 (Nat.le_refl _)⟩
theorem zoneWeighs_walk (A A' : Option Addr) (n c m c' : Nat) (l : List Int) (L : List (Int × Int)) (f : Int) (w : World) (hr : Rd w w.heap.size 1 A n (l.map (Value.int .i64))) (hl : l.length = n) (hr' : Rd w w.heap.size 2 A' m (L.flatMap spn)) (hl' : L.length = m) :
    Calls Try.prog 8 #[.slice A n c, .slice A' m c', .int .i64 f] w fun e w' => e = .returned (.bool true) ∧ Below w.heap.size w w' := by
  by_cases h : n ≤ 200 ∧ m ≤ 60
  · exact zoneWeighs_small A A' n c m c' l L f w hr hl hr' hl' h.1 h.2
  · rcases (show 200 < n ∨ (n ≤ 200 ∧ 60 < m) by omega) with h | ⟨h, h'⟩
    · have d3 : decide (200 < n) = true := by simpa using h
      clear hr hl hr' hl'
      go_enter Try.func8, Try.ntmps8
      go_wp2_with fail
      go_ret
      exact ⟨rfl, Below.refl _ _⟩
    · have d3 : decide (200 < n) = false := by simp; omega
      have d4 : decide (60 < m) = true := by simpa using h'
      clear hr hl hr' hl'
      go_enter Try.func8, Try.ntmps8
      go_wp2_with fail
      go_ret
      exact ⟨rfl, Below.refl _ _⟩
/-- A span in an argument. -/
theorem span_of {H : Type} {enc : TypeId × Value → H} {w : World} {base : Nat} {spare : Nat → Bool} {held : Bool} (n : Nat) (cs : List Value) (y : DataW H × List MemPlace) (h : DataW.trod enc Try.prog w base spare held n 53 cs = some y) :
    ∃ x : Int × Int, cs = spn x ∧ ((Lit.int .i64 x.1).wf = true ∧ (Lit.int .i64 x.2).wf = true) := by
  obtain ⟨zs, rfl, hlen, hwf⟩ := struct_ints (k := .i64) Try.underlying53 (by kernel_rfl) (by kernel_rfl) (by kernel_rfl) h
  match zs, hlen with
  | [a, b], _ => exact ⟨(a, b), rfl, hwf a (by simp), hwf b (by simp)⟩

set_option maxRecDepth 100000 in
theorem zoneWeighs_lifted (os : Os) (started : os.Started) (H : Type) (enc : TypeId × Value → H) :
    ReturnsInHanded {} Try.checked os 8 .any (Rows.zoneWeighsSpec.pre6 enc Try.prog Try.f8 [] false) (Rows.zoneWeighsSpec.post enc Try.prog Try.f8 false true false false) := by
  refine law_lifted (C := Try.checked) Try.own started (by kernel_rfl) Try.func8
    (ChangeSpec.witness6 (enc := enc) (C := Try.checked) false ⟨#[], #[.slice none 0 0, .slice none 0 0, .int .i64 0], []⟩ 8 (by kernel_rfl) (by kernel_rfl) (by kernel_rfl) (by kernel_rfl))
    Try.laidOut (show ∀ t ∈ [26, 48, 3], Try.prog.readableRec t = true ∧ t < Try.prog.types.size from by
      intro t ht; simp only [List.mem_cons, List.not_mem_nil, or_false] at ht; rcases ht with rfl | rfl | rfl <;> exact ⟨by kernel_rfl, of_decide_eq_true (by kernel_rfl)⟩) (tb := 4) (by kernel_rfl) Try.underlying4 rfl (fun ds hd => ?_) ?_
  · match ds, hd with
    | [_, _, _], _ => rfl
  · intro W base args ds p hval hA
    have hval' : ∀ (j : Nat) t v, Try.f8.params[j]? = some t → args[j]? = some v → Value.okWide Try.prog W .any base t v := hval
    rw [Try.params8] at hA hval'
    obtain ⟨v0, v1, v2, d0, d1, d2, p0, p1, p2, rfl, rfl, rfl, h0, h1, h2⟩ := trodAll_three hA
    obtain ⟨A, n, c, l, rfl, hl, hc, _, hw, hr⟩ := arg_ints Try.underlying26 Try.underlying3 (by kernel_rfl) (hval' 0 _ _ rfl rfl) h0
    obtain ⟨A', m, c', L, rfl, hl', hc', _, hw', hr'⟩ := arg_list (f := spn) spn_len (by omega) (ok := fun x => (Lit.int .i64 x.1).wf = true ∧ (Lit.int .i64 x.2).wf = true) Try.underlying48 (by kernel_rfl) span_of (hval' 1 _ _ rfl rfl) h1
    obtain ⟨f, rfl, w1⟩ := arg_int Try.underlying3 (hval' 2 _ _ rfl rfl) h2
    exact zoneWeighs_walk A A' n c m c' l L f W hr hl hr' hl'

theorem zoneWeighs_holds : Rows.ZoneWeighsSaid :=
  OpenClaim.holds_of_wide 8 Try.f8 rfl rfl rfl rfl rfl rfl rfl ⟨rfl, rfl, rfl, rfl, rfl⟩ rfl rfl rfl rfl rfl (by kernel_rfl) Try.func8 (by kernel_rfl)
    (of_decide_eq_true (by kernel_rfl)) (by unfold Func.isWrapper; first | (rw [if_pos (by decide +kernel)]; kernel_rfl) | (rw [if_neg (by decide +kernel)]; exact ⟨rfl, rfl⟩))
    (fun os started H enc _ => zoneWeighs_lifted os started H enc)
#print axioms zoneWeighs_holds
end Go.Proofs.Ytalecppofemcnaa
