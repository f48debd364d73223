/-
  The walks of package pick (Total, Of), of words.Scale, and of the document's answer for them.
-/
import Derived.Test.YtikdkljknbgphaaProg
import Derived.Test.YtikdkljknbgphaaBase
import Derived.Test.YtikdkljknbgphaaPickPlain
namespace Go.Proofs.Ytikdkljknbgphaa
open Go.RowKit HB PickP

theorem words_scale (x b : Int) (h0 : 0 ≤ x) (h1 : x ≤ 4294967295) (h2 : 0 ≤ b) (h3 : b ≤ 4294967295) (w : World) :
    Calls Try.prog 59 #[.int .u32 x, .int .u32 b] w fun e w' => e = .returned (.int .u32 (num x b)) ∧ w = w' := by
  obtain ⟨m0, m1⟩ := mul_range h0 h1 h2 h3
  have e : x * b / 4294967296 % 4294967296 = num x b := by unfold num; omega
  have E := hide e
  clear e
  go_enter Try.func59, Try.ntmps59
  go_wp2_with fail
  go_ret
  exact ⟨ret_int (by first | exact E.out | (rw [← E.out]; omega)), rfl⟩

set_option maxRecDepth 100000 in
set_option maxHeartbeats 2000000 in
theorem pick_total (A : Option Addr) (n c B : Nat) (l : List Int) (w : World) (hr : Rd w B 1 A n (l.map (Value.int .i64))) (hl : l.length = n) (hn : n ≤ 200) (hw : ∀ x ∈ l, (Lit.int .i64 x).wf = true) :
    Calls Try.prog 40 #[.slice A n c] w fun e w' => e = .returned (.tuple #[.int .i64 (total l).1, .int .i64 (total l).2]) ∧ w = w' := by
  have Hl := hide hl
  have Hw := hide hw
  clear hl hw
  go_enter Try.func40, Try.ntmps40
  go_wp2_with fail
  go_loop [11] (fun i => ∃ k : Nat, k ≤ n ∧ i = .int .i64 k ∧ ∀ j x, j < k → l[j]? = some x → 0 ≤ x) (fun i => n - (intOf i).toNat)
  case atStart => exact ⟨0, Nat.zero_le _, rfl, by omega⟩
  case round =>
    obtain ⟨k, hk, rfl, hpos⟩ := hrel
    have Hp := hide hpos
    clear hpos
    by_cases hlt : k < n
    · obtain ⟨b, off, x, rfl, hb, hg, c0⟩ := hr.int_at Hl.out hlt
      have G := hide hg
      clear hg hr
      by_cases hx : x < 0
      · have ht := hide (total_neg G.out hx)
        go_wp2_with fail
        go_ret2
        rw [ht.out]
        exact ⟨rfl, rfl⟩
      · go_wp2_with fail
        go_round
        case rel =>
          refine ⟨k + 1, by omega, by go_num, fun j y hj hy => ?_⟩
          rcases Nat.lt_or_ge j k with h | h
          · exact Hp.out j y h hy
          · obtain rfl : j = k := by omega
            rw [G.out] at hy
            obtain rfl := Option.some.inj hy
            omega
        case measure => simp [intOf]; omega
    · have hall : ∀ x ∈ l, 0 ≤ x := fun x hx => by
        obtain ⟨j, hj⟩ := List.getElem?_of_mem hx
        exact Hp.out j x (by have := (List.getElem?_eq_some_iff.1 hj).1; rw [Hl.out] at this; omega) hj
      have Ha := hide hall
      clear hall Hp
      obtain rfl : k = n := by omega
      clear hlt hk
      go_wp2_with fail
      go_loop [4, 20] (fun s i => ∃ k' : Nat, k' ≤ k ∧ i = .int .i64 k' ∧ s = .int .i64 (pre l k') ∧ pre l k' ≤ 2147483648) (fun _ i => k - (intOf i).toNat)
      case atStart => exact ⟨0, Nat.zero_le _, rfl, rfl, by rw [pre_zero]; omega⟩
      case round =>
        obtain ⟨j, hj, rfl, rfl, hp⟩ := hrel
        have hp0 := pre_nonneg l Ha.out j
        by_cases hlt : j < k
        · obtain ⟨b, off, x, rfl, hb, hg, c0⟩ := hr.int_at Hl.out hlt
          have hwx := bounds_i64 (Hw.out x (List.mem_of_getElem? hg))
          have hx0 := Ha.out x (List.mem_of_getElem? hg)
          have hs := hide (pre_succ hg)
          clear hg hr
          by_cases hbig : 2147483648 - pre l j < x
          · have ht := hide (total_big Ha.out (by have := pre_le_sum l Ha.out (j + 1); rw [hs.out] at this; omega))
            go_wp2_with fail
            go_ret2
            rw [ht.out]
            exact ⟨rfl, rfl⟩
          · go_wp2_with fail
            go_round
            case rel => exact ⟨j + 1, by omega, by go_num, by rw [hs.out], by rw [hs.out]; omega⟩
            case measure => simp [intOf]; omega
        · have hs := pre_all l j (by rw [Hl.out]; omega)
          rw [hs] at hp hp0
          have Hs := hide hs
          clear hs
          simp only [Hs.out]
          by_cases h0 : sum l = 0
          · have ht := hide (total_zero Ha.out h0)
            have hb : (sum l == 0) = true := by simpa using h0
            have H0 := hide h0
            clear h0
            go_wp2_with fail
            go_ret2
            rw [ht.out]
            exact ⟨rfl, rfl⟩
          · have ht := hide (total_ok Ha.out (by omega) h0)
            have hb : (sum l == 0) = false := by simpa using h0
            have H0 := hide h0
            clear h0
            go_wp2_with fail
            go_ret2
            rw [ht.out]
            exact ⟨rfl, rfl⟩

set_option maxRecDepth 100000 in
set_option maxHeartbeats 2000000 in
theorem ref_total (A : Option Addr) (n c B : Nat) (l : List Int) (w : World) (hr : Rd w B 1 A n (l.map (Value.int .i64))) (hl : l.length = n) (hn : n ≤ 200) (hw : ∀ x ∈ l, (Lit.int .i64 x).wf = true) :
    Calls Try.prog 41 #[.slice A n c] w fun e w' => e = .returned (.tuple #[.int .i64 (total l).1, .int .i64 (total l).2]) ∧ w = w' := by
  have Hl := hide hl
  have Hw := hide hw
  clear hl hw
  go_enter Try.func41, Try.ntmps41
  go_wp2_with fail
  go_loop [5] (fun i => ∃ k : Nat, k ≤ n ∧ i = .int .i64 k ∧ ∀ j x, j < k → l[j]? = some x → 0 ≤ x) (fun i => n - (intOf i).toNat)
  case atStart => exact ⟨0, Nat.zero_le _, rfl, by omega⟩
  case round =>
    obtain ⟨k, hk, rfl, hpos⟩ := hrel
    have Hp := hide hpos
    clear hpos
    by_cases hlt : k < n
    · obtain ⟨b, off, x, rfl, hb, hg, c0⟩ := hr.int_at Hl.out hlt
      have G := hide hg
      clear hg hr
      by_cases hx : x < 0
      · have ht := hide (total_neg G.out hx)
        go_wp2_with fail
        go_ret2
        rw [ht.out]
        exact ⟨rfl, rfl⟩
      · go_wp2_with fail
        go_round
        case rel =>
          refine ⟨k + 1, by omega, by go_num, fun j y hj hy => ?_⟩
          rcases Nat.lt_or_ge j k with h | h
          · exact Hp.out j y h hy
          · obtain rfl : j = k := by omega
            rw [G.out] at hy
            obtain rfl := Option.some.inj hy
            omega
        case measure => simp [intOf]; omega
    · have hall : ∀ x ∈ l, 0 ≤ x := fun x hx => by
        obtain ⟨j, hj⟩ := List.getElem?_of_mem hx
        exact Hp.out j x (by have := (List.getElem?_eq_some_iff.1 hj).1; rw [Hl.out] at this; omega) hj
      have Ha := hide hall
      clear hall Hp
      obtain rfl : k = n := by omega
      clear hlt hk
      go_wp2_with fail
      go_loop [4, 6] (fun s i => ∃ k' : Nat, k' ≤ k ∧ i = .int .i64 k' ∧ s = .int .u64 (pre l k') ∧ pre l k' ≤ 11000000000000000000) (fun _ i => k - (intOf i).toNat)
      case atStart => exact ⟨0, Nat.zero_le _, rfl, rfl, by rw [pre_zero]; omega⟩
      case round =>
        obtain ⟨j, hj, rfl, rfl, hp⟩ := hrel
        have hp0 := pre_nonneg l Ha.out j
        have hps := pre_le_sum l Ha.out j
        by_cases hbig : 2147483648 < pre l j
        · have ht := hide (total_big Ha.out (by omega))
          by_cases hlt : j < k
          · go_wp2_with fail
            go_ret2
            rw [ht.out]
            exact ⟨rfl, rfl⟩
          · go_wp2_with fail
            go_ret2
            rw [ht.out]
            exact ⟨rfl, rfl⟩
        · by_cases hlt : j < k
          · obtain ⟨b, off, x, rfl, hb, hg, c0⟩ := hr.int_at Hl.out hlt
            have hwx := bounds_i64 (Hw.out x (List.mem_of_getElem? hg))
            have hx0 := Ha.out x (List.mem_of_getElem? hg)
            have hs := hide (pre_succ hg)
            clear hg hr
            go_wp2_with fail
            go_round
            case rel => exact ⟨j + 1, by omega, by go_num, by rw [hs.out], by rw [hs.out]; omega⟩
            case measure => simp [intOf]; omega
          · have hs := pre_all l j (by rw [Hl.out]; omega)
            rw [hs] at hp hp0 hbig hps
            have Hs := hide hs
            clear hs
            simp only [Hs.out]
            by_cases h0 : sum l = 0
            · have ht := hide (total_zero Ha.out h0)
              have hb : (sum l == 0) = true := by simpa using h0
              have H0 := hide h0
              clear h0
              go_wp2_with fail
              go_ret2
              rw [ht.out]
              exact ⟨rfl, rfl⟩
            · have ht := hide (total_ok Ha.out (by omega) h0)
              have hb : (sum l == 0) = false := by simpa using h0
              have H0 := hide h0
              clear h0
              go_wp2_with fail
              go_ret2
              rw [ht.out]
              exact ⟨rfl, rfl⟩

def Pick.OfPost (l : List Int) (x : Int) (w : World) (e : Ending) (w' : World) : Prop := ∃ k : Nat, e = .returned (.tuple #[.int .i64 k, .int .i64 0]) ∧ Spot l (num x (sum l)) k ∧ w = w'
theorem pick_of_no (A : Option Addr) (n c B : Nat) (l : List Int) (x er : Int) (w : World) (hr : Rd w B 1 A n (l.map (Value.int .i64))) (hl : l.length = n) (hn : n ≤ 200) (hw : ∀ x ∈ l, (Lit.int .i64 x).wf = true)
    (ht : total l = (0, er)) (her : er = 21 ∨ er = 22) :
    Calls Try.prog 42 #[.int .u32 x, .slice A n c] w fun e w' => e = .returned (.tuple #[.int .i64 0, .int .i64 er]) ∧ w = w' := by
  have hb : (er != 0) = true := by rw [bne_iff_ne]; omega
  have T := hide ht
  clear ht her
  go_enter Try.func42, Try.ntmps42
  go_wp2_with (go_at_call 40; refine (pick_total A n c B l _ hr hl hn hw).mono ?_; rintro e w' ⟨rfl, rfl⟩; simp only [T.out])
  go_ret2
  exact ⟨rfl, rfl⟩
theorem ref_of_no (A : Option Addr) (n c B : Nat) (l : List Int) (x er : Int) (w : World) (hr : Rd w B 1 A n (l.map (Value.int .i64))) (hl : l.length = n) (hn : n ≤ 200) (hw : ∀ x ∈ l, (Lit.int .i64 x).wf = true)
    (ht : total l = (0, er)) (her : er = 21 ∨ er = 22) :
    Calls Try.prog 43 #[.int .u32 x, .slice A n c] w fun e w' => e = .returned (.tuple #[.int .i64 0, .int .i64 er]) ∧ w = w' := by
  have hb : (er != 0) = true := by rw [bne_iff_ne]; omega
  have T := hide ht
  clear ht her
  go_enter Try.func43, Try.ntmps43
  go_wp2_with (go_at_call 41; refine (ref_total A n c B l _ hr hl hn hw).mono ?_; rintro e w' ⟨rfl, rfl⟩; simp only [T.out])
  go_ret2
  exact ⟨rfl, rfl⟩

set_option maxRecDepth 100000 in
set_option maxHeartbeats 2000000 in
theorem pick_of (A : Option Addr) (n c B : Nat) (l : List Int) (x : Int) (w : World) (hr : Rd w B 1 A n (l.map (Value.int .i64))) (hl : l.length = n) (hn : n ≤ 200) (hw : ∀ x ∈ l, (Lit.int .i64 x).wf = true)
    (hx : 0 ≤ x) (hx1 : x ≤ 4294967295) (hpos : ∀ x ∈ l, 0 ≤ x) (ht : total l = (sum l, 0)) (hs : 0 < sum l) (hs1 : sum l ≤ 2147483648) :
    Calls Try.prog 42 #[.int .u32 x, .slice A n c] w (Pick.OfPost l x w) := by
  have T := hide ht
  have Hl := hide hl
  have Hw := hide hw
  have Hp := hide hpos
  obtain ⟨n0, n1⟩ := num_range hx hx1 hs
  clear ht hl hw hpos
  go_enter Try.func42, Try.ntmps42
  go_wp2_with (first
    | (go_at_call 40; refine (pick_total A n c B l _ hr Hl.out hn Hw.out).mono ?_; rintro e w' ⟨rfl, rfl⟩; simp only [T.out])
    | (go_at_call 59; refine (words_scale _ _ hx hx1 (by omega) (by omega) _).mono ?_; rintro e w' ⟨rfl, rfl⟩))
  generalize hN : num x (sum l) = N at *
  have HN := hide hN
  clear hN
  go_loop [8, 26] (fun r i => ∃ k : Nat, k ≤ n ∧ i = .int .i64 k ∧ r = .int .i64 (N - pre l k) ∧ pre l k ≤ N) (fun _ i => n - (intOf i).toNat)
  case atStart => exact ⟨0, Nat.zero_le _, rfl, by rw [pre_zero]; go_num, by rw [pre_zero]; omega⟩
  case round =>
    obtain ⟨k, hk, rfl, rfl, hle⟩ := hrel
    have hp0 := pre_nonneg l Hp.out k
    by_cases hlt : k < n
    · obtain ⟨b, off, y, rfl, hb, hg, c0⟩ := hr.int_at Hl.out hlt
      have hwy := bounds_i64 (Hw.out y (List.mem_of_getElem? hg))
      have hpy := Hp.out y (List.mem_of_getElem? hg)
      have hs := hide (pre_succ hg)
      clear hg hr
      by_cases hin : N - pre l k < y
      · go_wp2_with fail
        go_ret2
        exact ⟨k, rfl, ⟨by rw [Hl.out]; exact hlt, by rw [HN.out]; exact hle, by rw [HN.out, hs.out]; omega⟩, rfl⟩
      · go_wp2_with fail
        go_round
        case rel => exact ⟨k + 1, by omega, by go_num, by rw [hs.out]; go_num, by rw [hs.out]; omega⟩
        case measure => simp [intOf]; omega
    · rw [pre_all l k (by rw [Hl.out]; omega)] at hle
      omega

set_option maxRecDepth 100000 in
set_option maxHeartbeats 2000000 in
theorem ref_of (A : Option Addr) (n c B : Nat) (l : List Int) (x : Int) (w : World) (hr : Rd w B 1 A n (l.map (Value.int .i64))) (hl : l.length = n) (hn : n ≤ 200) (hw : ∀ x ∈ l, (Lit.int .i64 x).wf = true)
    (hx : 0 ≤ x) (hx1 : x ≤ 4294967295) (hpos : ∀ x ∈ l, 0 ≤ x) (ht : total l = (sum l, 0)) (hs : 0 < sum l) (hs1 : sum l ≤ 2147483648) :
    Calls Try.prog 43 #[.int .u32 x, .slice A n c] w (Pick.OfPost l x w) := by
  have T := hide ht
  have Hl := hide hl
  have Hw := hide hw
  have Hp := hide hpos
  obtain ⟨n0, n1⟩ := num_range hx hx1 hs
  obtain ⟨m0, m1⟩ := mul_range hx hx1 (Int.le_of_lt hs) (by omega)
  have e : x * sum l / 4294967296 = num x (sum l) := rfl
  clear ht hl hw hpos
  go_enter Try.func43, Try.ntmps43
  go_wp2_with (go_at_call 41; refine (ref_total A n c B l _ hr Hl.out hn Hw.out).mono ?_; rintro e w' ⟨rfl, rfl⟩; simp only [T.out])
  clear e m0 m1
  generalize hN : num x (sum l) = N at *
  have HN := hide hN
  clear hN
  go_loop [9, 10] (fun r i => ∃ k : Nat, k ≤ n ∧ i = .int .i64 k ∧ r = .int .i64 (pre l k) ∧ pre l k ≤ N) (fun _ i => n - (intOf i).toNat)
  case atStart => exact ⟨0, Nat.zero_le _, rfl, rfl, by rw [pre_zero]; omega⟩
  case round =>
    obtain ⟨k, hk, rfl, rfl, hle⟩ := hrel
    have hp0 := pre_nonneg l Hp.out k
    by_cases hlt : k < n
    · obtain ⟨b, off, y, rfl, hb, hg, c0⟩ := hr.int_at Hl.out hlt
      have hwy := bounds_i64 (Hw.out y (List.mem_of_getElem? hg))
      have hpy := Hp.out y (List.mem_of_getElem? hg)
      have hps := pre_le_sum l Hp.out (k + 1)
      have hs := hide (pre_succ hg)
      rw [hs.out] at hps
      clear hg hr
      by_cases hin : N < pre l k + y
      · go_wp2_with fail
        go_ret2
        exact ⟨k, rfl, ⟨by rw [Hl.out]; exact hlt, by rw [HN.out]; exact hle, by rw [HN.out, hs.out]; omega⟩, rfl⟩
      · go_wp2_with fail
        go_round
        case rel => exact ⟨k + 1, by omega, by go_num, by rw [hs.out], by rw [hs.out]; omega⟩
        case measure => simp [intOf]; omega
    · rw [pre_all l k (by rw [Hl.out]; omega)] at hle
      omega

set_option maxHeartbeats 1000000 in
theorem pick_alive (w : World) : Calls Try.prog 44 #[] w fun e w' => e = .returned (.bool true) ∧ Below w.heap.size w w' := by
  have hpos : ∀ x ∈ [(1 : Int), 0, 1], 0 ≤ x := by decide
  have hw : ∀ x ∈ [(1 : Int), 0, 1], (Lit.int .i64 x).wf = true := by decide
  have Hp := hide hpos
  have Hw := hide hw
  clear hpos hw
  go_enter Try.func44, Try.ntmps44
  go_wp2_with fail
  refine (pick_of _ 3 3 _ [1, 0, 1] 2147483648 _ (Rd.new w _ (xs := [.int .i64 1, .int .i64 0, .int .i64 1]) rfl) rfl (by omega) Hw.out (by omega) (by omega) Hp.out rfl (by decide) (by decide)).mono ?_; rintro e w1 ⟨k, rfl, hpl, rfl⟩
  obtain rfl := Spot.one Hp.out hpl (show Spot [1, 0, 1] (num 2147483648 (sum [1, 0, 1])) 2 from ⟨by decide, by decide, by decide⟩)
  go_wp2_with fail
  go_ret
  exact ⟨rfl, by go_grown⟩
end Go.Proofs.Ytikdkljknbgphaa
