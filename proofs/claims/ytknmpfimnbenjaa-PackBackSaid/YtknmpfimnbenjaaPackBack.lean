/-
  The law PackBack holds: whatever the numbers and the texts, the call returns true and turns nothing. No condition.
-/
import Derived.Test.YtknmpfimnbenjaaRows
import Derived.Test.YtknmpfimnbenjaaFrame
import Derived.Test.YtknmpfimnbenjaaPackBackP
namespace Go.Proofs.Ytknmpfimnbenjaa
open Go.ChangeShapes Go.WideShapes Go.ChangeAt Go.RowKit HB PackP
set_option linter.unusedVariables false
set_option linter.unusedSimpArgs false

def BackQ (w : World) (e : Ending) (w' : World) : Prop := e = .returned (.bool true) ∧ Below w.heap.size w w'
set_option maxRecDepth 100000 in
set_option maxHeartbeats 8000000 in
theorem packBack_main (A A' : Option Addr) (n c m c' : Nat) (l : List Int) (ss : List ByteArray) (w : World) (hr : Rd w w.heap.size 1 A n (l.map (Value.int .i64))) (hl : l.length = n) (hr' : Rd w w.heap.size 1 A' m (ss.flatMap str)) (hl' : ss.length = m) (hx : ∀ x ∈ l, -9223372036854775808 ≤ x ∧ x ≤ 9223372036854775807) (hn : n ≤ 50) (hm : m ≤ 50) :
    Calls Try.prog 4 #[.slice A n c, .slice A' m c'] w (BackQ w) := by
  have HR := hide hr
  have HR' := hide hr'
  have Hl := hide hl
  have Hl' := hide hl'
  have HX := hide hx
  clear hr hr' hl hl' hx
  go_enter Try.func4, Try.ntmps4
  go_wp2_with fail
  go_loopw [5, 6] (fun o i wr => ∃ k : Nat, k ≤ n ∧ i = .int .i64 k ∧ OwnB wr w.heap.size o (e1 (l.take k)) ∧ Below w.heap.size w wr) (fun _ i _ => n - (intOf i).toNat)
  case atStart => exact ⟨0, Nat.zero_le _, rfl, Own.nil _ _ _ _ _, Below.refl _ _⟩
  case round =>
    obtain ⟨k, hk, rfl, hown, hbel⟩ := hrel
    have HBE := hide hbel
    have hz := hbel.size
    by_cases hlt : k < n
    · obtain ⟨b, off, x, rfl, hbb, hg, cx⟩ := (HR.out.below hbel).int_at Hl.out hlt
      have hxr := HX.out x (List.mem_of_getElem? hg)
      have hL : (e1 (l.take k)).length ≤ 1000000 := by
        have := e1_len (l.take k) (sub_take HX.out)
        rw [List.length_take] at this
        omega
      have HP := hide (pack_putInt u5 _ x w.heap.size wr hown hz hL hxr.1 hxr.2)
      have HG := hide hg
      have i0 : (0 : Int) ≤ (k : Int) := by omega
      have i1 : (k : Int) < (n : Int) := by omega
      clear hown hg hL hbel hxr
      go_wp2_with (go_at_call 14; refine (HP.out).mono ?_; rintro e w1 ⟨⟨v1, rfl, o1⟩, hb1⟩)
      go_roundw
      case rel => exact ⟨k + 1, by omega, by go_num, by rw [e1_snoc HG.out]; exact o1, HBE.out.trans hb1⟩
      case measure => simp [intOf]; omega
    · obtain rfl : k = n := by omega
      rw [List.take_of_length_le (by rw [Hl.out]; exact Nat.le_refl _)] at hown
      have H1 := hide hown
      clear hown hbel
      have HL1 := hide (e1_len l HX.out)
      go_wp2_with fail
      go_loopw [5, 7] (fun o i w2 => ∃ j : Nat, j ≤ m ∧ i = .int .i64 j ∧ OwnB w2 w.heap.size o (e1 l ++ e2 (ss.take j)) ∧ (∀ s ∈ ss.take j, s.size ≤ 100) ∧ Below w.heap.size w w2) (fun _ i _ => m - (intOf i).toNat)
      case atStart => exact ⟨0, Nat.zero_le _, rfl, by simpa [e2] using H1.out, by simp, HBE.out⟩
      case round =>
        obtain ⟨j, hj, rfl, hown, hsm, hbel⟩ := hrel
        have HBF := hide hbel
        have hz2 := hbel.size
        have HSM := hide hsm
        have hL : (e1 l ++ e2 (ss.take j)).length ≤ 1000000 := by
          have h1 := HL1.out
          have h2 := e2_len (ss.take j) hsm
          rw [List.length_take] at h2
          rw [List.length_append]
          rw [Hl.out] at h1
          omega
        by_cases hjt : j < m
        · obtain ⟨b, off, s, rfl, hbb, hg, cx⟩ := (HR'.out.below hbel).str_at Hl'.out hjt
          have HG := hide hg
          have i0 : (0 : Int) ≤ (j : Int) := by omega
          have i1 : (j : Int) < (m : Int) := by omega
          by_cases hs : 100 < s.size
          · clear hown hg hL hbel hsm
            go_wp2_with fail
            go_ret
            exact ⟨rfl, HBF.out⟩
          · have HP := hide (pack_putText _ _ s w.heap.size _ hown hz2 hL (by omega))
            clear hown hg hL hbel hsm
            go_wp2_with (go_at_call 16; refine (HP.out).mono ?_; rintro e w1 ⟨⟨v1, rfl, o1⟩, hb1⟩)
            go_roundw
            case rel => exact ⟨j + 1, by omega, by go_num, by rw [e2_snoc HG.out, ← List.append_assoc, ← List.append_assoc]; exact o1, by rw [stake_snoc HG.out]; intro z hz; rcases List.mem_append.1 hz with hz | hz; exact HSM.out z hz; simp at hz; subst hz; omega, HBF.out.trans hb1⟩
            case measure => simp [intOf]; omega
        · obtain rfl : j = m := by omega
          rw [List.take_of_length_le (by rw [Hl'.out]; exact Nat.le_refl _)] at hown hL hsm
          obtain ⟨A2, c2, rfl, hc2, r2⟩ := hown.ints
          have HM := hide (reader_make A2 _ c2 _ _ _ hc2 rfl r2 (Nat.le_refl _))
          have HLL := hide hL
          have HS := hide hsm
          clear hown hL hsm HSM r2
          generalize (e1 l ++ e2 ss).length = LN at *
          go_wp2_with (go_at_call 22; refine (HM.out).mono ?_; rintro e w3 ⟨rfl, hrp, hb3⟩)
          have hb4 := hide (then_ HBF.out hb3 (Nat.le_refl _))
          have hzp : w.heap.size ≤ wr.heap.size := hz2
          clear hb3 hz2
          generalize wr.heap.size = p at *
          go_loopw [9] (fun i w5 => ∃ k2 : Nat, k2 ≤ k ∧ i = .int .i64 k2 ∧ Rr w5 p p (e1 (l.drop k2) ++ e2 ss) false ∧ Below w.heap.size w w5) (fun i _ => k - (intOf i).toNat)
          case atStart => exact ⟨0, Nat.zero_le _, rfl, hrp, hb4.out⟩
          case round =>
            obtain ⟨k2, hk2, rfl, hr5, hb5⟩ := hrel
            have HB5 := hide hb5
            by_cases hlt2 : k2 < k
            · obtain ⟨b, off, x, rfl, hbb, hg, cx⟩ := (HR.out.below hb5).int_at Hl.out hlt2
              have hxr := HX.out x (List.mem_of_getElem? hg)
              have hd := e1_drop hg
              have h1 := read_put (fold_lt hxr.1 hxr.2) (e1 (l.drop (k2 + 1)) ++ e2 ss) false
              rw [hd, List.append_assoc] at hr5
              have hlen : (put (fold x) ++ (e1 (l.drop (k2 + 1)) ++ e2 ss)).length ≤ 1000000 := by
                have a1 := e1_len (l.drop (k2 + 1)) (sub_drop HX.out)
                have a2 := e2_len ss HS.out
                have a3 := put_ten (fold_lt hxr.1 hxr.2)
                rw [List.length_drop, Hl.out] at a1
                rw [Hl'.out] at a2
                rw [List.length_append, List.length_append]
                omega
              have hI := reader_int p p _ false _ (hr5.below (Below.refl _ _).drew hr5.hp) (fun y hy => by rcases List.mem_append.1 hy with hy | hy; exact put_in _ y hy; exact e_in _ _ y hy) hlen
              simp only [h1.1, h1.2.1, h1.2.2, unfold_fold] at hI
              have HI := hide hI
              have i0 : (0 : Int) ≤ (k2 : Int) := by omega
              have i1 : (k2 : Int) < (k : Int) := by omega
              have HBX := hide (hb5.drew)
              have hcx := hide cx
              clear hI h1 hd hr5 hxr hg hlen hb5
              go_wp2_with fail
              go_region_held3 (fun w' => w'.cell? ⟨b, off + k2, none⟩ = some (.int .i64 x))
                (first | (exact hcx.out) | (exact (hb6.cell (p := ⟨b, off + k2, none⟩) hbb).trans hcx.out) | go_keep)
                (first | (go_at_call 23; refine (HI.out).mono ?_; rintro e w6 ⟨rfl, hr6, hg6⟩; have hb6 := (Below.refl w.heap.size _).grown hg6 HBX.out.size (fun k hk => by injection hk with hk; omega)))
              all_goals
                go_wp2_with fail
                go_roundw
                case rel => exact ⟨k2 + 1, by omega, by go_num, hr6, HBX.out.trans hb6⟩
                case measure => simp [intOf]; omega
            · obtain rfl : k2 = k := by omega
              rw [List.drop_of_length_le (by rw [Hl.out]; exact Nat.le_refl _)] at hr5
              have H5 := hide hr5
              clear hr5 hrp hb5
              go_wp2_with fail
              go_loopw [10] (fun i w7 => ∃ j2 : Nat, j2 ≤ j ∧ i = .int .i64 j2 ∧ Rr w7 p p (e2 (ss.drop j2)) false ∧ Below w.heap.size w w7) (fun i _ => j - (intOf i).toNat)
              case atStart => exact ⟨0, Nat.zero_le _, rfl, by simpa [e1] using H5.out, HB5.out⟩
              case round =>
                obtain ⟨j2, hj2, rfl, hr7, hb7⟩ := hrel
                have HB7 := hide hb7
                by_cases hjt2 : j2 < j
                · obtain ⟨b, off, s, rfl, hbb, hg, cx⟩ := (HR'.out.below hb7).str_at Hl'.out hjt2
                  have hsz := HS.out s (List.mem_of_getElem? hg)
                  have hd := e2_drop hg
                  have h1 := text_put (s := s) (by omega) (e2 (ss.drop (j2 + 1))) false
                  rw [hd] at hr7
                  have hlen : (put s.size ++ (txt s ++ e2 (ss.drop (j2 + 1)))).length ≤ 1000000 := by
                    have a2 := e2_len (ss.drop (j2 + 1)) (ssub_drop HS.out)
                    have a3 := put_ten (n := s.size) (by omega)
                    have a4 := txt_length s
                    rw [List.length_drop, Hl'.out] at a2
                    rw [List.length_append, List.length_append]
                    omega
                  have hI := reader_text p p _ false _ (hr7.below (Below.refl _ _).drew hr7.hp) (fun y hy => by rw [← hd] at hy; exact e2_in _ y hy) hlen
                  simp only [h1.1, h1.2.1, h1.2.2] at hI
                  have HI := hide hI
                  have i0 : (0 : Int) ≤ (j2 : Int) := by omega
                  have i1 : (j2 : Int) < (j : Int) := by omega
                  have HBX := hide (hb7.drew)
                  have hcx := hide cx
                  clear hI h1 hd hr7 hsz hg hlen hb7
                  go_wp2_with fail
                  go_region_held3 (fun w' => w'.cell? ⟨b, off + j2, none⟩ = some (.string s))
                    (first | (exact hcx.out) | (exact (hb8.cell (p := ⟨b, off + j2, none⟩) hbb).trans hcx.out) | go_keep)
                    (first | (go_at_call 24; refine (HI.out).mono ?_; rintro e w8 ⟨rfl, hr8, hg8⟩; have hb8 := (Below.refl w.heap.size _).grown hg8 HBX.out.size (fun k hk => by injection hk with hk; omega)))
                  all_goals
                    go_wp2_with fail
                    go_roundw
                    case rel => exact ⟨j2 + 1, by omega, by go_num, hr8, HBX.out.trans hb8⟩
                    case measure => simp [intOf]; omega
                · obtain rfl : j2 = j := by omega
                  rw [List.drop_of_length_le (by rw [Hl'.out]; exact Nat.le_refl _)] at hr7
                  have HLF := hide (reader_left p p _ false _ hr7)
                  have HBD := hide (reader_bad p p _ false _ hr7)
                  have hlen0 : (e2 []).length = 0 := rfl
                  rw [hlen0] at HLF
                  clear hr7 hb7
                  go_wp2_with (first | (go_at_call 25; refine (HLF.out).mono ?_; rintro e w9 ⟨rfl, rfl⟩) | (go_at_call 26; refine (HBD.out).mono ?_; rintro e w9 ⟨rfl, rfl⟩) | (go_at_call 21; refine (pack_alive _).mono ?_; rintro e w9 ⟨rfl, hb9⟩))
                  go_ret
                  exact ⟨rfl, then_ HB7.out hb9 (Nat.le_refl _)⟩
theorem packBack_all (A A' : Option Addr) (n c m c' : Nat) (l : List Int) (ss : List ByteArray) (w : World) (hr : Rd w w.heap.size 1 A n (l.map (Value.int .i64))) (hl : l.length = n) (hr' : Rd w w.heap.size 1 A' m (ss.flatMap str)) (hl' : ss.length = m) (hw : ∀ x ∈ l, (Lit.int .i64 x).wf = true) :
    Calls Try.prog 4 #[.slice A n c, .slice A' m c'] w (BackQ w) := by
  by_cases h : 50 < n ∨ (n ≤ 50 ∧ 50 < m)
  · clear hr hl hr' hl' hw
    rcases h with h | ⟨h, h'⟩
    all_goals
      go_enter Try.func4, Try.ntmps4
      go_wp2_with fail
      go_ret
      exact ⟨rfl, Below.refl _ _⟩
  · exact packBack_main A A' n c m c' l ss w hr hl hr' hl' (fun x hx => bounds_i64 (hw x hx)) (by omega) (by omega)

set_option maxRecDepth 100000 in
theorem packBack_lifted (os : Os) (started : os.Started) (H : Type) (enc : TypeId × Value → H) :
    ReturnsInHanded {} Try.checked os 4 .any (Rows.packBackSpec.pre6 enc Try.prog Try.f4 [] false) (Rows.packBackSpec.post enc Try.prog Try.f4 false true false false) := by
  refine law_lifted (C := Try.checked) Try.own started (by kernel_rfl) Try.func4
    (ChangeSpec.witness6 (enc := enc) (C := Try.checked) false ⟨#[], #[.slice none 0 0, .slice none 0 0], []⟩ 8 (by kernel_rfl) (by kernel_rfl) (by kernel_rfl) (by kernel_rfl))
    Try.laidOut (show ∀ t ∈ [35, 36], Try.prog.readableRec t = true ∧ t < Try.prog.types.size from by
      intro t ht; simp only [List.mem_cons, List.not_mem_nil, or_false] at ht; rcases ht with rfl | rfl <;> exact ⟨by kernel_rfl, of_decide_eq_true (by kernel_rfl)⟩) (tb := 4) (by kernel_rfl) Try.underlying4 rfl (fun ds hd => ?_) ?_
  · match ds, hd with
    | [_, _], _ => rfl
  · intro W base args ds p hval hA
    have hval' : ∀ (j : Nat) t v, Try.f4.params[j]? = some t → args[j]? = some v → Value.okWide Try.prog W .any base t v := hval
    rw [Try.params4] at hA hval'
    obtain ⟨v0, v1, d0, d1, p0, p1, rfl, rfl, rfl, h0, h1⟩ := trodAll_two hA
    obtain ⟨A, n, c, l, rfl, hl, hcA, hcB, hw, hr⟩ := arg_ints Try.underlying35 Try.underlying2 (by kernel_rfl) (hval' 0 _ _ rfl rfl) h0
    obtain ⟨A', m, c', L, rfl, hl', hc', _, hw', hr'⟩ := arg_list (f := str) str_len (by omega) (ok := fun x => x.size ≤ maxLen) Try.underlying36 (by kernel_rfl)
      (fun n cs' y hy => by obtain ⟨x, h1, _, h2⟩ := DataW.trod_string Try.underlying9 hy; exact ⟨x, h1, h2⟩) (hval' 1 _ _ rfl rfl) h1
    exact packBack_all A A' n c m c' l L W hr hl hr' hl' hw

theorem packBack_holds : Rows.PackBackSaid :=
  OpenClaim.holds_of_wide 4 Try.f4 rfl rfl rfl rfl rfl rfl rfl ⟨rfl, rfl, rfl, rfl, rfl⟩ rfl rfl rfl rfl rfl (by kernel_rfl) Try.func4 (by kernel_rfl)
    (of_decide_eq_true (by kernel_rfl)) (by unfold Func.isWrapper; first | (rw [if_pos (by decide +kernel)]; kernel_rfl) | (rw [if_neg (by decide +kernel)]; exact ⟨rfl, rfl⟩))
    (fun os started H enc _ => packBack_lifted os started H enc)
#print axioms packBack_holds
end Go.Proofs.Ytknmpfimnbenjaa
