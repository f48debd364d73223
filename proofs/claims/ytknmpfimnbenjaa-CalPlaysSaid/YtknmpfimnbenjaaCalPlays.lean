/-
  The law CalPlays holds: whatever the calls, the call returns true and turns nothing. No condition.
-/
import Derived.Test.YtknmpfimnbenjaaRows
import Derived.Test.YtknmpfimnbenjaaFrame
import Derived.Test.YtknmpfimnbenjaaCalStep3
import Derived.Deep.DeepCutAuto
namespace Go.Proofs.Ytknmpfimnbenjaa
open Go.ChangeShapes Go.WideShapes Go.ChangeAt Go.RowKit HB HeapP Go.Maps CalP
set_option linter.unusedVariables false
set_option linter.unusedSimpArgs false

/-- a call: its kind and its entry -/
structure Oq where
  n : Int
  e : En
deriving Inhabited
abbrev opc : Oq → List Value := fun o => [.int .i64 o.n, .int .i64 o.e.t, .int .i64 o.e.k, .int .i64 o.e.i]
theorem opc_len (o : Oq) : (opc o).length = 4 := rfl
theorem Rd.op_at {w : World} {B n : Nat} {A : Option Addr} {L : List Oq} (h : Rd w B 4 A n (L.flatMap opc)) (hl : L.length = n) {i : Nat} (hi : i < n) :
    ∃ (b off : Nat) (x : Oq), A = some ⟨b, off, none⟩ ∧ b < B ∧ L[i]? = some x ∧ w.cell? ⟨b, off + i * 4, none⟩ = some (.int .i64 x.n) ∧ w.cell? ⟨b, off + i * 4 + 1, none⟩ = some (.int .i64 x.e.t) ∧ w.cell? ⟨b, off + i * 4 + 2, none⟩ = some (.int .i64 x.e.k) ∧ w.cell? ⟨b, off + i * 4 + 3, none⟩ = some (.int .i64 x.e.i) := by
  obtain ⟨b, off, x, hA, hb, hg, hc⟩ := h.elem_at opc_len hl hi
  exact ⟨b, off, x, hA, hb, hg, hc 0 _ (by omega) rfl, hc 1 _ (by omega) rfl, hc 2 _ (by omega) rfl, hc 3 _ (by omega) rfl⟩
theorem len_le_of_sub {l : List En} : ∀ {L : List En}, Uq l → (∀ e ∈ l, e ∈ L) → l.length ≤ L.length := by
  induction l with
  | nil => intro L _ _; exact Nat.zero_le _
  | cons x t ih =>
    intro L hu hs
    obtain ⟨h1, h2⟩ := List.pairwise_cons.1 hu
    have hx := hs x List.mem_cons_self
    have hp := (List.perm_cons_erase hx).length_eq
    have := ih (L := L.erase x) h2 (fun e he => (List.mem_erase_of_ne (fun heq => h1 e he (by rw [heq]; exact ⟨rfl, rfl⟩))).2 (hs e (List.mem_cons_of_mem _ he)))
    simp only [List.length_cons] at hp ⊢
    omega
def PlaysQ (w : World) (e : Ending) (w' : World) : Prop := e = .returned (.bool true) ∧ Below w.heap.size w w'
def XGe (B p g : Nat) (m : Option Nat) : Prop := ∀ k, Xb p g m k → B ≤ k
def PRel (w : World) (M : Nat) (lv i : Value) (wr : World) : Prop :=
  ∃ (k g d : Nat) (m : Option Nat) (L l : List En) (A : Option Addr) (n c : Nat), k ≤ M ∧ i = .int .i64 k ∧ lv = .slice A n c ∧ Cs wr w.heap.size g m d L l ∧ RdB wr (Xb w.heap.size g m) A n l ∧ l.length = n ∧ n ≤ c ∧ n ≤ k ∧ L.length ≤ k ∧ d ≤ k ∧ XGe w.heap.size w.heap.size g m ∧ Below w.heap.size w wr
set_option maxRecDepth 100000 in
set_option maxHeartbeats 8000000 in
theorem calPlays_walk (B : Option Addr) (M d0 : Nat) (os : List Oq) (w : World) (hq : Rd w w.heap.size 4 B M (os.flatMap opc)) (hm : os.length = M) (hw : ∀ o ∈ os, wfE o.e) :
    Calls Try.prog 10 #[.slice B M d0] w (PlaysQ w) := by
  by_cases hn : 100 < M
  · clear hq hm hw
    go_enter Try.func10, Try.ntmps10
    go_wp2_with fail
    go_ret
    exact ⟨rfl, Below.refl _ _⟩
  · have hn2 : M ≤ 100 := by omega
    have HB0 := hide ((Below.refl w.heap.size w).alloc (Nat.le_refl _) CO)
    have HC0 := hide (Cs.fresh w)
    have Hm := hide hm
    have HQ := hide hq
    have HW := hide hw
    clear hq hm hn hw
    go_enter Try.func10, Try.ntmps10
    go_wp2_with fail
    go_loopw [4, 5] (fun lv i wr => PRel w M lv i wr) (fun _ i _ => M - (intOf i).toNat)
    case atStart => exact ⟨0, w.heap.size, 0, none, [], [], none, 0, 0, Nat.zero_le _, rfl, rfl, HC0.out, ⟨⟨rfl, fun h => absurd h (Nat.lt_irrefl _)⟩, fun h => absurd h (Nat.lt_irrefl _)⟩, rfl, Nat.le_refl _, Nat.le_refl _, Nat.le_refl _, Nat.le_refl _, Xb.ge (Nat.le_refl _) (Nat.le_refl _) (fun b hb => (by cases hb)), HB0.out⟩
    case round =>
      obtain ⟨k, g, d, m, L, l, A, n, c, hk, rfl, rfl, hcs, hrd, hl, hc, hnk, hLk, hdk, hge, hbel⟩ := hrel
      have HBE := hide hbel
      have HGE := hide hge
      by_cases hlt : k < M
      · obtain ⟨b, off, x, rfl, hb, hg0, x0, x1, x2, x3⟩ := Rd.op_at (HQ.out.below hbel) Hm.out hlt
        have HXW := hide (HW.out x (List.mem_of_getElem? hg0))
        have i0 : (0 : Int) ≤ (k : Int) := by omega
        have i1 : (k : Int) < (M : Int) := by omega
        clear hg0
        by_cases hx : x.n < 0
        · clear hcs hrd hl hbel hge
          go_wp2_with fail
          go_ret
          exact ⟨rfl, HBE.out⟩
        · obtain ⟨xn, xe⟩ := x
          obtain ⟨K, rfl⟩ := Int.eq_ofNat_of_zero_le (show 0 ≤ xn by simp only at hx; omega)
          have HST := hide (cal_step w.heap.size g n c K d m A L l xe wr hcs hrd hl hc (by omega) (by omega) (by omega) HXW.out)
          clear hcs hrd hl hbel hge hc hx
          go_wp2_with (first
            | (go_at_call 46; refine (HST.out).mono ?_; rintro e w4 ⟨g2, m2, d2, L2, A4, n4, c4, l2, rfl, hc4, hr4, hl4, hn4, hL4, hd4, hb4, hx4⟩; have HC4 := hide hc4; have HR4 := hide hr4; have HL4 := hide hl4; have HLL := hide hL4; have HB4 := hide (HBE.out.trans (hb4.below HGE.out HBE.out.size)); have hwr := HBE.out.size; have HG4 := hide (fun q (hq : Xb w.heap.size g2 m2 q) => (show w.heap.size ≤ q from by
                by_cases hlt : q < wr.heap.size
                · exact HGE.out q (hx4 q hlt hq)
                · omega)); clear hc4 hr4 hL4 hb4 hx4)
            | (go_at_call 47; refine (cal_len _ _ _ _ _ _ _ HC4.out).mono ?_; rintro e w5 ⟨rfl, rfl⟩; rw [hl4]; clear hl4)
            | (go_at_call 48; refine (cal_peek w.heap.size g2 d2 L2.length m2 L2 l2 _ HC4.out rfl (by have := HLL.out; omega)).mono ?_; rintro e w6 ⟨rfl, L6, hc6, ht6, hl6, hb6⟩; have HC6 := hide hc6; have HL6 := hide hl6; have HB6 := hide hb6; clear hc6 ht6 hl6 hb6))
          have hb69 := (Below.refl w6.heap.size w6).alloc (Nat.le_refl _) (.cells #[.int .i64 (top l2).t, .int .i64 (top l2).k, .int .i64 (top l2).i] 70)
          have HT9 := hide (Trio.new w6 70 (.int .i64 (top l2).t) (.int .i64 (top l2).k) (.int .i64 (top l2).i))
          have HC9 := hide (HC6.out.below hb69)
          have HR9 := hide ((HR4.out.but (Y := Xb w.heap.size g2 m2) HB6.out (fun _ _ h => h)).but (Y := Xb w.heap.size g2 m2) (But.of_below (X := Xb w.heap.size g2 m2) hb69) (fun _ _ h => h))
          have HB9 := hide (then_ (HB4.out.trans (HB6.out.below HG4.out HB4.out.size)) hb69 (Nat.le_refl _))
          have hnL : n4 ≤ L2.length := by have h1 := len_le_of_sub HC4.out.ch.uq HC4.out.ch.sub; rw [HL4.out] at h1; exact h1
          have hL2k : L2.length ≤ k + 1 := by have := HLL.out; omega
          have hL6k : L6.length ≤ k + 1 := by have := HL6.out; omega
          have hn4k : n4 ≤ k + 1 := by omega
          clear hb69 HC4 HC6 HR4 HB6 HB4 HST hnL hL2k
          generalize w6.alloc (.cells #[.int .i64 (top l2).t, .int .i64 (top l2).k, .int .i64 (top l2).i] 70) = w9 at *
          generalize w6.heap.size = r9 at *
          go_cut [9, 75] (fun _ s wx => s = .bool false ∧ Below w9.heap.size w9 wx)
          case first =>
            obtain ⟨t0, t1, t2, -, -, -, -⟩ := HT9.out
            cases l2 with
            | nil =>
              obtain rfl : n4 = 0 := HL4.out.symm
              have htz : top ([] : List En) = ⟨0, 0, 0⟩ := rfl
              rw [htz] at t0 t1 t2
              have hdd : decide (0 < ([] : List En).length) = false := rfl
              rw [hdd]
              have hq0 : ((0 : Int) == 0) = true := by decide
              clear htz hdd
              go_wp2_with fail
              go_quiet (fail)
              go_wp2_with fail
              go_meet
              exact ⟨rfl, below_drewN (Below.refl _ _) _⟩
            | cons y t =>
              have h0 : 0 < n4 := by have := HL4.out; simp at this; omega
              obtain ⟨b', off', y', rfl, hb', hg', y0, y1, y2⟩ := HR9.out.1.ent_at HL4.out h0
              have y0 : w9.cell? ⟨b', off', none⟩ = _ := y0
              have y1 : w9.cell? ⟨b', off' + 1, none⟩ = _ := y1
              have y2 : w9.cell? ⟨b', off' + 2, none⟩ = _ := y2
              obtain rfl : y = y' := by simpa using hg'
              have htz : top (y :: t) = y := rfl
              rw [htz] at t0 t1 t2 ⊢
              have hdd : decide (0 < (y :: t).length) = true := by simp
              rw [hdd]
              have j0 : (0 : Int) < (n4 : Int) := by omega
              clear hg' htz hdd
              go_wp2_with fail
              go_quiet (fail)
              go_wp2_with fail
              go_meet
              exact ⟨rfl, below_drewN (Below.refl _ _) _⟩
          case rest =>
            obtain ⟨rfl, hbw⟩ := hcut
            have HBW := hide hbw
            clear hbw x0 x1 x2 x3
            go_wp2_with fail
            go_roundw
            case rel => exact ⟨k + 1, g2, d2, m2, L6, l2, A4, n4, c4, by omega, by go_num, rfl, HC9.out.below HBW.out, HR9.out.but (Y := Xb w.heap.size g2 m2) (But.of_below (X := Xb w.heap.size g2 m2) HBW.out) (fun _ _ h => h), HL4.out, hn4, hn4k, hL6k, by omega, HG4.out, then_ HB9.out HBW.out (Nat.le_refl _)⟩
            case measure => simp [intOf]; omega
      · obtain rfl : k = M := by omega
        clear hcs hrd hl hge hbel
        go_wp2_with (go_at_call 49; refine (cal_alive _).mono ?_; rintro e w9 ⟨rfl, hb9⟩)
        go_ret
        exact ⟨rfl, then_ HBE.out hb9 (Nat.le_refl _)⟩
theorem ent_ofw {H : Type} {enc : TypeId × Value → H} {w : World} {base : Nat} {spare : Nat → Bool} {held : Bool} (n : Nat) (cs : List Value) (y : DataW H × List MemPlace) (h : DataW.trod enc Try.prog w base spare held n 70 cs = some y) :
    ∃ x : En, cs = ent x ∧ wfE x := by
  obtain ⟨zs, rfl, hlen, hwf⟩ := struct_ints (k := .i64) Try.underlying70 (by kernel_rfl) (by kernel_rfl) (by kernel_rfl) h
  match zs, hlen with
  | [a, b, c], _ => exact ⟨⟨a, b, c⟩, rfl, hwf a (by simp), hwf b (by simp), hwf c (by simp)⟩
theorem op_of {H : Type} {enc : TypeId × Value → H} {w : World} {base : Nat} {spare : Nat → Bool} {held : Bool} (n : Nat) (cs : List Value) (y : DataW H × List MemPlace) (h : DataW.trod enc Try.prog w base spare held n 89 cs = some y) :
    ∃ x : Oq, cs = opc x ∧ wfE x.e := by
  obtain ⟨xs, n', _, _, hlen, hxl, hf⟩ := DataW.trod_struct Try.underlying89 h
  have h0 : DataW.trod enc Try.prog w base spare held n' 3 (List.take (Try.prog.cellsOf 3) (List.drop 0 cs)) = xs[0]? := hf 0 _ rfl
  have h1 : DataW.trod enc Try.prog w base spare held n' 70 (List.take (Try.prog.cellsOf 70) (List.drop 1 cs)) = xs[1]? := hf 1 _ rfl
  have hx2 : xs.length = 2 := hxl
  rw [show Try.prog.cellsOf 89 = 4 by kernel_rfl] at hlen
  rw [show Try.prog.cellsOf 3 = 1 by kernel_rfl, List.getElem?_eq_getElem (by omega)] at h0
  rw [show Try.prog.cellsOf 70 = 3 by kernel_rfl, List.getElem?_eq_getElem (by omega)] at h1
  obtain ⟨z, hz, _, _⟩ := DataW.trod_int Try.underlying3 h0
  obtain ⟨e, he, hwe⟩ := ent_ofw _ _ _ h1
  refine ⟨⟨z, e⟩, ?_, hwe⟩
  rw [List.take_of_length_le (by rw [List.length_drop]; omega)] at he
  have h3 := (List.take_append_drop 1 cs).symm
  rw [List.drop_zero] at hz
  rw [hz, he] at h3
  exact h3

set_option maxRecDepth 100000 in
theorem calPlays_lifted (os : Os) (started : os.Started) (H : Type) (enc : TypeId × Value → H) :
    ReturnsInHanded {} Try.checked os 10 .any (Rows.calPlaysSpec.pre6 enc Try.prog Try.f10 [] false) (Rows.calPlaysSpec.post enc Try.prog Try.f10 false true false false) := by
  refine law_lifted (C := Try.checked) Try.own started (by kernel_rfl) Try.func10
    (ChangeSpec.witness6 (enc := enc) (C := Try.checked) false ⟨#[], #[.slice none 0 0], []⟩ 8 (by kernel_rfl) (by kernel_rfl) (by kernel_rfl) (by kernel_rfl))
    Try.laidOut (show ∀ t ∈ [82], Try.prog.readableRec t = true ∧ t < Try.prog.types.size from by
      intro t ht; simp only [List.mem_cons, List.not_mem_nil, or_false] at ht; subst ht <;> exact ⟨by kernel_rfl, of_decide_eq_true (by kernel_rfl)⟩) (tb := 4) (by kernel_rfl) Try.underlying4 rfl (fun ds hd => ?_) ?_
  · match ds, hd with
    | [_], _ => rfl
  · intro W base args ds p hval hA
    have hval' : ∀ (j : Nat) t v, Try.f10.params[j]? = some t → args[j]? = some v → Value.okWide Try.prog W .any base t v := hval
    rw [Try.params10] at hA hval'
    obtain ⟨v0, d0, rfl, rfl, h0⟩ := trodAll_one hA
    obtain ⟨B, m, d, os, rfl, hm, _, _, hok, hq⟩ := arg_list (f := opc) opc_len (by omega) (ok := fun o => wfE o.e) Try.underlying82 (by kernel_rfl) op_of (hval' 0 _ _ rfl rfl) h0
    exact calPlays_walk B m d os W hq hm hok

theorem calPlays_holds : Rows.CalPlaysSaid :=
  OpenClaim.holds_of_wide 10 Try.f10 rfl rfl rfl rfl rfl rfl rfl ⟨rfl, rfl, rfl, rfl, rfl⟩ rfl rfl rfl rfl rfl (by kernel_rfl) Try.func10 (by kernel_rfl)
    (of_decide_eq_true (by kernel_rfl)) (by unfold Func.isWrapper; first | (rw [if_pos (by decide +kernel)]; kernel_rfl) | (rw [if_neg (by decide +kernel)]; exact ⟨rfl, rfl⟩))
    (fun os started H enc _ => calPlays_lifted os started H enc)
#print axioms calPlays_holds
end Go.Proofs.Ytknmpfimnbenjaa
