/-
  The law ParetoFronts holds: whatever the rows, the call returns true and turns nothing. No condition.
-/
import Derived.Test.YtkgkilogjodccaaRows
import Derived.Test.YtkgkilogjodccaaFrame
import Derived.Test.YtkgkilogjodccaaParetoAlive
namespace Go.Proofs.Ytkgkilogjodccaa
open Go.ChangeShapes Go.WideShapes Go.ChangeAt Go.RowKit HB ParetoP
set_option linter.unusedVariables false
set_option linter.unusedSimpArgs false

set_option maxRecDepth 100000 in
set_option maxHeartbeats 4000000 in
theorem paretoFronts_walk (A Aa Ab : Option Addr) (n c na ca nb cb : Nat) (R : List RowR) (la lb : List Int) (w : World) (hr : Rws w w.heap.size A n R) (ha : Rd w w.heap.size 1 Aa na (la.map (Value.int .i64))) (hla : la.length = na) (hb : Rd w w.heap.size 1 Ab nb (lb.map (Value.int .i64))) (hlb : lb.length = nb) :
    Calls Try.prog 13 #[.slice A n c, .slice Aa na ca, .slice Ab nb cb] w fun e w' => e = .returned (.bool true) ∧ Below w.heap.size w w' := by
  have Hla := hide hla
  have Hlb := hide hlb
  have Hn := hide hr.2.1
  clear hla hlb
  go_enter Try.func13, Try.ntmps13
  go_wp2_with fail
  refine (law_great A n c w.heap.size R _ hr).mono ?_; rintro e w' ⟨(rfl | ⟨rfl, hn, h8⟩), rfl⟩
  · go_wp2_with fail
    go_ret
    exact ⟨rfl, Below.refl _ _⟩
  have H8 := hide h8
  clear h8
  by_cases h1 : 50 < na
  · go_wp2_with fail
    go_ret
    exact ⟨rfl, Below.refl _ _⟩
  by_cases h2 : 50 < nb
  · go_wp2_with fail
    go_ret
    exact ⟨rfl, Below.refl _ _⟩
  have d1 : decide (50 < na) = false := by simp; omega
  have d2 : decide (50 < nb) = false := by simp; omega
  have d3 : decide ((50 : Int) < (na : Int)) = false := by simp; omega
  have d4 : decide ((50 : Int) < (nb : Int)) = false := by simp; omega
  have HRw := hide hr
  have Ha := hide ha
  have Hb := hide hb
  clear hr ha hb
  go_wp2_with fail
  go_loopw [7, 8] (fun o i wr => Front.Out R w o i wr) (fun _ i _ => n - (intOf i).toNat)
  case atStart => exact ⟨0, Nat.zero_le _, rfl, Own.nil _ _ _ _ _, Below.refl _ _⟩
  case round =>
    obtain ⟨k, hk, rfl, hown, hbel⟩ := hrel
    rw [Hn.out] at hk
    have HO := hide hown
    clear hown
    by_cases hlt : k < n
    · go_wp2_with fail
      go_loopw [9, 10] (fun s j wr2 => ∃ i : Nat, i ≤ n ∧ j = .int .i64 i ∧ s = .bool (((lsOf R).take i).any fun x => bt x ((lsOf R).getD k [])) ∧ Own wr2 w.heap.size 3 1 (num .i64) u7 (front (lsOf R) k) ∧ Below w.heap.size w wr2) (fun _ j _ => n - (intOf j).toNat)
      case atStart => exact ⟨0, Nat.zero_le _, rfl, by simp, HO.out, hbel⟩
      case round =>
        obtain ⟨i, hi, rfl, rfl, hown2, hbel2⟩ := hrel
        clear HO hbel
        have HO := hide hown2
        clear hown2
        have HR := hide (HRw.out.below hbel2)
        obtain ⟨b, off, A', n', c', a, hA0, hb, hg, c0, hra, hla⟩ := HR.out.at_ hlt
        have hgd : (lsOf R).getD k [] = a := by rw [List.getD_eq_getElem?_getD, hg]; rfl
        simp only [hgd]
        have Hg := hide hg
        have Hra := hide hra
        have Hla2 := hide hla
        clear hg hra hla
        have hz := hbel2.size
        by_cases hlt2 : i < n
        · obtain ⟨b2, off2, A2, n2, c2, l2, hA, hb2, hg2, c1, hr2, hl2⟩ := HR.out.at_ hlt2
          subst hA0
          simp only [Option.some.injEq, Addr.mk.injEq, and_true] at hA
          obtain ⟨rfl, rfl⟩ := hA
          have E := hide (any_next (fun x => bt x a) hg2)
          have hn2 : n2 ≤ 100 := by have := H8.out l2 (List.mem_of_getElem? hg2); omega
          have Hr2 := hide hr2
          have Hl2 := hide hl2
          clear hg2 hr2 hl2
          have i0 : (0 : Int) ≤ (k : Int) := by omega
          have i1 : (k : Int) < (n : Int) := by omega
          have j0 : (0 : Int) ≤ (i : Int) := by omega
          have j1 : (i : Int) < (n : Int) := by omega
          generalize hs : ((lsOf R).take i).any (fun x => bt x a) = s
          have S := hide hs
          clear hs
          cases s with
          | true =>
            go_wp2_with fail
            go_quiet (fail)
            go_wp2_with fail
            go_roundw
            case rel => exact ⟨i + 1, by omega, by go_num, by rw [E.out, S.out]; rfl, HO.out.drewN _, below_drewN hbel2 _⟩
            case measure => simp [intOf]; omega
          | false =>
            go_wp2_with fail
            go_quiet ((go_at_call 53; exact Calls.quiet_of (law_beats A2 A' n2 n' c2 c' w.heap.size l2 a _ (Hr2.out.drewN _) (Hra.out.drewN _) Hl2.out Hla2.out hn2)))
            go_wp2_with fail
            go_roundw
            case rel => exact ⟨i + 1, by omega, by go_num, by rw [E.out, S.out]; rfl, HO.out.drewN _, below_drewN hbel2 _⟩
            case measure => simp [intOf]; omega
        · obtain rfl : i = n := by omega
          have hL : (front (lsOf R) k).length ≤ 1000000000 := Nat.le_trans (front_length _ _) (by omega)
          have hall : ((lsOf R).take i).any (fun x => bt x a) = beaten (lsOf R) a := by
            rw [List.take_of_length_le (by simp [lsOf, Hn.out])]; rfl
          simp only [hall]
          clear hall hgd hA0
          generalize hs : beaten (lsOf R) a = s
          cases s with
          | true =>
            have F := hide (front_out Hg.out hs)
            clear hs
            go_wp2_with fail
            go_roundw
            case rel => exact ⟨k + 1, by rw [Hn.out]; omega, by go_num, by rw [F.out]; exact HO.out, hbel2⟩
            case measure => simp [intOf]; omega
          | false =>
            have F := hide (front_in Hg.out hs)
            clear hs
            go_wp2_with (at_builtin; refine push rfl _ _ 35 rfl Try.underlying35 Pareto.info rfl (by omega) (by omega) rfl (HO.out.alloc _) (k : Int) ⟨_, 0, none⟩ 1 rfl rfl (cell_one_new _ _ _) (by simp [Value.oneCell']) hL (Nat.le_trans hz (by simp)) ?_; intro v' w1 hown1 hb1)
            go_roundw
            case rel => exact ⟨k + 1, by rw [Hn.out]; omega, by go_num, by rw [F.out]; exact hown1, (hbel2.alloc hz _).trans hb1⟩
            case measure => simp [intOf]; omega
    · obtain rfl : k = n := by omega
      have hz := hbel.size
      have HR := hide (HRw.out.below hbel)
      obtain ⟨A1, c1, rfl, hc1, hrd⟩ := HO.out.ints
      have hL : (front (lsOf R) k).length ≤ k := front_length _ _
      have HO1 := hide hrd
      clear hrd HO
      go_wp2_with fail
      refine (pareto_beats Aa Ab na nb ca cb w.heap.size la lb _ (Ha.out.below hbel) (Hb.out.below hbel) Hla.out Hlb.out (by omega)).mono ?_; rintro e w' ⟨rfl, rfl⟩
      go_wp2_with fail
      refine (law_beats Aa Ab na nb ca cb w.heap.size la lb _ (Ha.out.below hbel) (Hb.out.below hbel) Hla.out Hlb.out (by omega)).mono ?_; rintro e w' ⟨rfl, m, rfl⟩
      generalize bt la lb = s
      have hss : (s == s) = true := by simp
      go_wp2_with fail
      refine (pareto_front A k c w.heap.size R _ (HR.out.drewN m) hz hn H8.out).mono ?_; rintro e w1 ⟨v, rfl, hown, hb1⟩
      obtain ⟨A2, c2, rfl, hc2, hrd2⟩ := hown.ints
      rw [Hn.out] at hrd2
      simp only [Hn.out]
      have HR2 := hide hrd2
      have HR3 := hide ((HO1.out.drewN m).below hb1)
      have hB := then_ (below_drewN hbel m) hb1 (Nat.le_refl _)
      clear hown hrd2
      go_wp2_with fail
      refine (eqInt _ _ _ _ _ _ _ _ _ _ _ HR2.out HR3.out (by omega) (by omega)).mono ?_; rintro e w3 ⟨rfl, mm, rfl⟩
      simp only [decide_true]
      go_wp2_with (go_at_call 56; refine (pareto_alive _).mono ?_; rintro e w9 ⟨rfl, hb9⟩)
      go_ret
      exact ⟨rfl, then_ (below_drewN hB mm) hb9 (Nat.le_refl _)⟩

theorem arg_rows {H : Type} {enc : TypeId × Value → H} {w : World} {base : Nat} {spare : Nat → Bool} {held : Bool} {r : Reach} {b0 : Nat} {v : Value} {d : DataW H} {ps : List MemPlace}
    (hv : Value.okWide Try.prog w r b0 76 v) (hd : DataW.Trod enc Try.prog w base spare held 76 v d ps) :
    ∃ (A : Option Addr) (n c : Nat) (R : List RowR), v = .slice A n c ∧ Rws w w.heap.size A n R := by
  obtain ⟨A, n, c, R, rfl, hl, _, _, hok, hr⟩ := arg_list (f := fun r : RowR => [r.v]) (m := 1) (fun _ => rfl) (by omega) (ok := fun r => Rd w w.heap.size 1 r.A r.n (r.l.map (Value.int .i64)) ∧ r.l.length = r.n) Try.underlying76 (by kernel_rfl)
    (fun n cs' y hy => by
      obtain ⟨A, n, c, l, e0, hl, hc, _, _, hr⟩ := open_list (f := fun z => [Value.int .i64 z]) (m := 1) (fun _ => rfl) (by omega) (ok := fun z => (Lit.int .i64 z).wf = true) Try.underlying35 (by kernel_rfl)
        (fun n cs' y hy => by obtain ⟨z, h1, _, h2⟩ := DataW.trod_int Try.underlying3 hy; exact ⟨z, h1, h2⟩) hy
      subst e0
      rw [map_flat] at hr
      exact ⟨⟨A, n, c, l⟩, rfl, hr, hl⟩) hv hd
  have e : R.flatMap (fun r => [r.v]) = R.map RowR.v := by clear hl hok hr hd hv; induction R with
    | nil => rfl
    | cons x R ih => simp [List.flatMap_cons, ih]
  rw [e] at hr
  exact ⟨A, n, c, R, rfl, hr, hl, hok⟩

set_option maxRecDepth 100000 in
theorem paretoFronts_lifted (os : Os) (started : os.Started) (H : Type) (enc : TypeId × Value → H) :
    ReturnsInHanded {} Try.checked os 13 .any (Rows.paretoFrontsSpec.pre6 enc Try.prog Try.f13 [] false) (Rows.paretoFrontsSpec.post enc Try.prog Try.f13 false true false false) := by
  refine law_lifted (C := Try.checked) Try.own started (by kernel_rfl) Try.func13
    (ChangeSpec.witness6 (enc := enc) (C := Try.checked) false ⟨#[], #[.slice none 0 0, .slice none 0 0, .slice none 0 0], []⟩ 8 (by kernel_rfl) (by kernel_rfl) (by kernel_rfl) (by kernel_rfl))
    Try.laidOut (show ∀ t ∈ [76, 35, 35], Try.prog.readableRec t = true ∧ t < Try.prog.types.size from by
      intro t ht; simp only [List.mem_cons, List.not_mem_nil, or_false] at ht; rcases ht with rfl | rfl | rfl <;> exact ⟨by kernel_rfl, of_decide_eq_true (by kernel_rfl)⟩) (tb := 4) (by kernel_rfl) Try.underlying4 rfl (fun ds hd => ?_) ?_
  · match ds, hd with
    | [_, _, _], _ => rfl
  · intro W base args ds p hval hA
    have hval' : ∀ (j : Nat) t v, Try.f13.params[j]? = some t → args[j]? = some v → Value.okWide Try.prog W .any base t v := hval
    rw [Try.params13] at hA hval'
    obtain ⟨v0, v1, v2, d0, d1, d2, p0, p1, p2, rfl, rfl, rfl, h0, h1, h2⟩ := trodAll_three hA
    obtain ⟨A, n, c, R, rfl, hr⟩ := arg_rows (hval' 0 _ _ rfl rfl) h0
    obtain ⟨Aa, na, ca, la, rfl, hla, _, _, _, ha⟩ := arg_ints Try.underlying35 Try.underlying3 (by kernel_rfl) (hval' 1 _ _ rfl rfl) h1
    obtain ⟨Ab, nb, cb, lb, rfl, hlb, _, _, _, hb⟩ := arg_ints Try.underlying35 Try.underlying3 (by kernel_rfl) (hval' 2 _ _ rfl rfl) h2
    exact paretoFronts_walk A Aa Ab n c na ca nb cb R la lb W hr ha hla hb hlb

theorem paretoFronts_holds : Rows.ParetoFrontsSaid :=
  OpenClaim.holds_of_wide 13 Try.f13 rfl rfl rfl rfl rfl rfl rfl ⟨rfl, rfl, rfl, rfl, rfl⟩ rfl rfl rfl rfl rfl (by kernel_rfl) Try.func13 (by kernel_rfl)
    (of_decide_eq_true (by kernel_rfl)) (by unfold Func.isWrapper; first | (rw [if_pos (by decide +kernel)]; kernel_rfl) | (rw [if_neg (by decide +kernel)]; exact ⟨rfl, rfl⟩))
    (fun os started H enc _ => paretoFronts_lifted os started H enc)
#print axioms paretoFronts_holds
end Go.Proofs.Ytkgkilogjodccaa
