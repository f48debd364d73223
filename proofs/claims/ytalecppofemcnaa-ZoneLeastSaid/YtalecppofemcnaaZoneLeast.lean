/-
  The law ZoneLeast holds: whatever the weights and the number of zones, the call returns true and turns nothing. No condition.
-/
import Derived.Test.YtalecppofemcnaaRows
import Derived.Test.YtalecppofemcnaaFrame
import Derived.Test.YtalecppofemcnaaZoneRef
namespace Go.Proofs.Ytalecppofemcnaa
open Go.ChangeShapes Go.WideShapes Go.ChangeAt Go.RowKit HB ZoneP
set_option linter.unusedVariables false
set_option linter.unusedSimpArgs false
set_option maxHeartbeats 1000000 in
theorem law_right (A : Option Addr) (n c B : Nat) (l : List Int) (k : Int) (w : World) (hr : Rd w B 1 A n (l.map (Value.int .i64))) (hl : l.length = n) :
    Calls Try.prog 25 #[.slice A n c, .int .i64 k] w fun e w' => e = .returned (.bool (okW l k)) ∧ w = w' := by
  have Hl := hide hl
  by_cases h : 0 < n ∧ n ≤ 128 ∧ 1 ≤ k
  · obtain ⟨h0, h1, h2⟩ := h
    have z0 : decide ((n : Int) < 1) = false := by simp; omega
    have z1 : decide (128 < n) = false := by simp; omega
    clear hl
    go_enter Try.func25, Try.ntmps25
    go_wp2_with fail
    go_loop [5] (fun i => ∃ q : Nat, q ≤ n ∧ i = .int .i64 q ∧ ∀ x ∈ l.take q, 0 ≤ x ∧ x ≤ 1048576) (fun i => n - (intOf i).toNat)
    case atStart => exact ⟨0, Nat.zero_le _, rfl, by simp⟩
    case round =>
      obtain ⟨q, hq, rfl, hall⟩ := hrel
      have HA := hide hall
      clear hall
      by_cases hlt : q < n
      · obtain ⟨b, off, x, rfl, hb, hg, c0⟩ := hr.int_at Hl.out hlt
        have Hg := hide hg
        have hno : (x < 0 ∨ 1048576 < x) → okW l k = false := fun h => okW_no (fun hh => by have := hh.2.2.2 x (List.mem_of_getElem? hg); omega)
        have HN := hide hno
        clear hno hg hr
        rcases (show x < 0 ∨ (0 ≤ x ∧ 1048576 < x) ∨ (0 ≤ x ∧ x ≤ 1048576) by omega) with h3 | ⟨h3, h4⟩ | ⟨h3, h4⟩
        · have hf := hide (HN.out (.inl h3))
          go_wp2_with fail
          go_ret
          exact ⟨ret_bool (by rw [hf.out]), rfl⟩
        · have hf := hide (HN.out (.inr h4))
          go_wp2_with fail
          go_ret
          exact ⟨ret_bool (by rw [hf.out]), rfl⟩
        · go_wp2_with fail
          go_round
          case rel =>
            refine ⟨q + 1, by omega, by go_num, ?_⟩
            rw [List.take_add_one, Hg.out]
            intro y hy
            rcases List.mem_append.1 hy with hy | hy
            · exact HA.out y hy
            · simp at hy; subst hy; exact ⟨h3, h4⟩
          case measure => simp [intOf]; omega
      · have hok := hide (okW_mk (l := l) (k := k) ⟨by rw [Hl.out]; exact h0, by rw [Hl.out]; exact h1, h2, by have := HA.out; rwa [List.take_of_length_le (by rw [Hl.out]; omega)] at this⟩)
        go_wp2_with fail
        go_ret
        exact ⟨ret_bool (by rw [hok.out]), rfl⟩
  · have hf := hide (okW_no (l := l) (k := k) (fun hh => h ⟨by omega, by omega, hh.2.2.1⟩))
    have hcase : n = 0 ∨ (0 < n ∧ 128 < n) ∨ (0 < n ∧ n ≤ 128 ∧ k < 1) := by omega
    clear h hl hr
    rcases hcase with h | ⟨h, h'⟩ | ⟨h, h', h''⟩
    · subst h
      go_enter Try.func25, Try.ntmps25
      go_wp2_with fail
      go_ret
      exact ⟨ret_bool (by rw [hf.out]), rfl⟩
    · have z0 : decide ((n : Int) < 1) = false := by simp; omega
      have z1 : decide (128 < n) = true := by simp; omega
      go_enter Try.func25, Try.ntmps25
      go_wp2_with fail
      go_ret
      exact ⟨ret_bool (by rw [hf.out]), rfl⟩
    · have z0 : decide ((n : Int) < 1) = false := by simp; omega
      have z1 : decide (128 < n) = false := by simp; omega
      go_enter Try.func25, Try.ntmps25
      go_wp2_with fail
      go_ret
      exact ⟨ret_bool (by rw [hf.out]), rfl⟩


set_option maxRecDepth 100000 in
set_option maxHeartbeats 4000000 in
theorem zoneLeast_no (A : Option Addr) (n c : Nat) (l : List Int) (k : Int) (w : World) (hr : Rd w w.heap.size 1 A n (l.map (Value.int .i64))) (hl : l.length = n) (hok : okW l k = false) :
    Calls Try.prog 6 #[.slice A n c, .int .i64 k] w fun e w' => e = .returned (.bool true) ∧ Below w.heap.size w w' := by
  have H1 := hide (zone_least_no A n c w.heap.size l k w hr hl hok)
  have H2 := hide (zone_cut_no A n c w.heap.size l k w hr hl hok)
  have h3 := law_right A n c w.heap.size l k w hr hl
  rw [hok] at h3
  have H3 := hide h3
  clear hok hr hl h3
  go_enter Try.func6, Try.ntmps6
  go_wp2_with (first
    | (go_at_call 23; refine (H1.out).mono ?_; rintro e w1 ⟨rfl, rfl⟩)
    | (go_at_call 24; refine (H2.out).mono ?_; rintro e w1 ⟨rfl, rfl⟩)
    | (go_at_call 25; refine (H3.out).mono ?_; rintro e w1 ⟨rfl, rfl⟩)
    | (go_at_call 26; refine (zone_alive _).mono ?_; rintro e w9 ⟨rfl, hb9⟩))
  go_ret
  exact ⟨rfl, hb9⟩
set_option maxRecDepth 100000 in
set_option maxHeartbeats 4000000 in
theorem zoneLeast_yes (A : Option Addr) (n c : Nat) (l : List Int) (k : Int) (w : World) (hr : Rd w w.heap.size 1 A n (l.map (Value.int .i64))) (hl : l.length = n) (hok : okW l k = true) :
    Calls Try.prog 6 #[.slice A n c, .int .i64 k] w fun e w' => e = .returned (.bool true) ∧ Below w.heap.size w w' := by
  obtain ⟨hn0, hn1, hk, -⟩ := okW_yes hok
  rw [hl] at hn0 hn1
  have H1 := hide (zone_least A n c w.heap.size l k w hr hl hok)
  have H2 := hide (zone_cut A n c w.heap.size l k w hr (Nat.le_refl _) hl hok)
  have h3 := fun (W : World) (hb : Below w.heap.size w W) => law_right A n c w.heap.size l k W (hr.below hb) hl
  simp only [hok] at h3
  have H3 := hide h3
  have Hok := hide hok
  have HR := hide hr
  have Hl := hide hl
  have hself : ∀ x : Int, (x == x) = true := by simp
  have HS := hide (hself (lst l k.toNat))
  clear hok hr hl h3 hself
  have hcase : (40 < n) ∨ (n ≤ 40 ∧ 12 < k) ∨ (n ≤ 40 ∧ k ≤ 12) := by omega
  rcases hcase with h | ⟨h, h'⟩ | ⟨h, h'⟩
  · have d1 : decide (40 < n) = true := by simpa using h
    go_enter Try.func6, Try.ntmps6
    go_wp2_with (first
      | (go_at_call 23; refine (H1.out).mono ?_; rintro e w1 ⟨rfl, rfl⟩)
      | (go_at_call 24; refine (H2.out).mono ?_; rintro e w2 ⟨v, rfl, hown, hb2⟩)
      | (go_at_call 25; refine (H3.out _ hb2).mono ?_; rintro e w1 ⟨rfl, rfl⟩)
      | (go_at_call 26; refine (zone_alive _).mono ?_; rintro e w9 ⟨rfl, hb9⟩))
    go_ret
    exact ⟨rfl, then_ hb2 hb9 (Nat.le_refl _)⟩
  · have d1 : decide (40 < n) = false := by simp; omega
    have d2 : decide (12 < k) = true := by simpa using h'
    go_enter Try.func6, Try.ntmps6
    go_wp2_with (first
      | (go_at_call 23; refine (H1.out).mono ?_; rintro e w1 ⟨rfl, rfl⟩)
      | (go_at_call 24; refine (H2.out).mono ?_; rintro e w2 ⟨v, rfl, hown, hb2⟩)
      | (go_at_call 25; refine (H3.out _ hb2).mono ?_; rintro e w1 ⟨rfl, rfl⟩)
      | (go_at_call 26; refine (zone_alive _).mono ?_; rintro e w9 ⟨rfl, hb9⟩))
    go_ret
    exact ⟨rfl, then_ hb2 hb9 (Nat.le_refl _)⟩
  · have d1 : decide (40 < n) = false := by simp; omega
    have d2 : decide (12 < k) = false := by simp; omega
    have h4 := fun (W : World) (hb : Below w.heap.size w W) => zone_ref A n c l k W ((HR.out.below hb).mono hb.size) Hl.out Hok.out h
    generalize lst l k.toNat = L at *
    have H4 := hide h4
    have hself := HS.out
    clear h4
    go_enter Try.func6, Try.ntmps6
    go_wp2_with (first
      | (go_at_call 23; refine (H1.out).mono ?_; rintro e w1 ⟨rfl, rfl⟩)
      | (go_at_call 24; refine (H2.out).mono ?_; rintro e w2 ⟨v, rfl, hown, hb2⟩; clear hown)
      | (go_at_call 25; refine (H3.out _ hb2).mono ?_; rintro e w1 ⟨rfl, rfl⟩)
      | (go_at_call 27; refine (H4.out _ hb2).mono ?_; rintro e w4 ⟨rfl, hb4⟩)
      | (go_at_call 26; refine (zone_alive _).mono ?_; rintro e w9 ⟨rfl, hb9⟩))
    go_ret
    exact ⟨rfl, then_ (then_ hb2 hb4 (Nat.le_refl _)) hb9 (Nat.le_refl _)⟩
theorem zoneLeast_big (A : Option Addr) (n c : Nat) (l : List Int) (k : Int) (hl : l.length = n) (hn : 128 < n) : okW l k = false := okW_no (fun h => by omega)

set_option maxRecDepth 100000 in
theorem zoneLeast_lifted (os : Os) (started : os.Started) (H : Type) (enc : TypeId × Value → H) :
    ReturnsInHanded {} Try.checked os 6 .any (Rows.zoneLeastSpec.pre6 enc Try.prog Try.f6 [] false) (Rows.zoneLeastSpec.post enc Try.prog Try.f6 false true false false) := by
  refine law_lifted (C := Try.checked) Try.own started (by kernel_rfl) Try.func6
    (ChangeSpec.witness6 (enc := enc) (C := Try.checked) false ⟨#[], #[.slice none 0 0, .int .i64 0], []⟩ 8 (by kernel_rfl) (by kernel_rfl) (by kernel_rfl) (by kernel_rfl))
    Try.laidOut (show ∀ t ∈ [26, 3], Try.prog.readableRec t = true ∧ t < Try.prog.types.size from by
      intro t ht; simp only [List.mem_cons, List.not_mem_nil, or_false] at ht; rcases ht with rfl | rfl <;> exact ⟨by kernel_rfl, of_decide_eq_true (by kernel_rfl)⟩) (tb := 4) (by kernel_rfl) Try.underlying4 rfl (fun ds hd => ?_) ?_
  · match ds, hd with
    | [_, _], _ => rfl
  · intro W base args ds p hval hA
    have hval' : ∀ (j : Nat) t v, Try.f6.params[j]? = some t → args[j]? = some v → Value.okWide Try.prog W .any base t v := hval
    rw [Try.params6] at hA hval'
    obtain ⟨v0, v1, d0, d1, p0, p1, rfl, rfl, rfl, h0, h1⟩ := trodAll_two hA
    obtain ⟨A, n, c, l, rfl, hl, hc, hcm, hw, hr⟩ := arg_ints Try.underlying26 Try.underlying3 (by kernel_rfl) (hval' 0 _ _ rfl rfl) h0
    obtain ⟨k, rfl, w1⟩ := arg_int Try.underlying3 (hval' 1 _ _ rfl rfl) h1
    cases hok : okW l k with
    | true => exact zoneLeast_yes A n c l k W hr hl hok
    | false => exact zoneLeast_no A n c l k W hr hl hok

theorem zoneLeast_holds : Rows.ZoneLeastSaid :=
  OpenClaim.holds_of_wide 6 Try.f6 rfl rfl rfl rfl rfl rfl rfl ⟨rfl, rfl, rfl, rfl, rfl⟩ rfl rfl rfl rfl rfl (by kernel_rfl) Try.func6 (by kernel_rfl)
    (of_decide_eq_true (by kernel_rfl)) (by unfold Func.isWrapper; first | (rw [if_pos (by decide +kernel)]; kernel_rfl) | (rw [if_neg (by decide +kernel)]; exact ⟨rfl, rfl⟩))
    (fun os started H enc _ => zoneLeast_lifted os started H enc)
#print axioms zoneLeast_holds
end Go.Proofs.Ytalecppofemcnaa
