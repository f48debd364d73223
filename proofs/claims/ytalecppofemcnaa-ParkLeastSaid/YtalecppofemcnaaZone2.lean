/-
  The walks of zone.Cut, zone.Weigh and zone.Of.
-/
import Derived.Test.YtalecppofemcnaaZone
import Derived.Test.YtalecppofemcnaaSpans
namespace Go.Proofs.Ytalecppofemcnaa
open Go.RowKit HB ZoneP
set_option linter.unusedVariables false
set_option linter.unusedSimpArgs false
theorem Zone.info : (Try.prog.info? 53).map (fun i => (i.zero, i.size, i.bytes)) = some (some (.agg #[.int .i64 0, .int .i64 0]), 2, 16) := by kernel_rfl
namespace ZoneP
/-- the zones as spans -/
def sp (L : List (Nat × Nat)) : List (Int × Int) := L.map fun p => ((p.1 : Int), (p.2 : Int))
theorem sp_length (L : List (Nat × Nat)) : (sp L).length = L.length := by simp [sp]
theorem sp_app (L : List (Nat × Nat)) (p : Nat × Nat) : sp (L ++ [p]) = sp L ++ [((p.1 : Int), (p.2 : Int))] := by simp [sp]
theorem sp_set (L : List (Nat × Nat)) (i : Nat) (p : Nat × Nat) : sp (L.set i p) = (sp L).set i ((p.1 : Int), (p.2 : Int)) := by simp [sp, List.map_set]
theorem sp_get {L : List (Nat × Nat)} {i : Nat} {a b : Nat} (h : L[i]? = some (a, b)) : (sp L)[i]? = some ((a : Int), (b : Int)) := by simp [sp, h]
theorem cl_pos (l : List Int) (M : Int) (n : Nat) : 0 < (cl l M n).length := by rw [cl_length]; omega
theorem cl_le (l : List Int) (M : Int) : ∀ n, (cl l M n).length ≤ n + 1
  | 0 => by simp [cl, cs]
  | n + 1 => by
    have := cl_le l M n
    by_cases h : (gz l M n).2 + wt l n > M
    · rw [cl_new h]; simp; omega
    · rw [cl_old h, List.length_set]; omega
end ZoneP

theorem zone_cut_no (A : Option Addr) (n c B : Nat) (l : List Int) (k : Int) (w : World) (hr : Rd w B 1 A n (l.map (Value.int .i64))) (hl : l.length = n) (hok : okW l k = false) :
    Calls Try.prog 24 #[.slice A n c, .int .i64 k] w fun e w' => e = .returned (.tuple #[.slice none 0 0, .int .i64 22]) ∧ w = w' := by
  have HC := hide (zone_least_no A n c B l k w hr hl hok)
  clear hok hr hl
  go_enter Try.func24, Try.ntmps24
  go_wp2_with (go_at_call 23; refine (HC.out).mono ?_; rintro e w1 ⟨rfl, rfl⟩)
  go_ret2
  exact ⟨rfl, rfl⟩

def Cut.Post (l : List Int) (k : Int) (n : Nat) (w : World) (e : Ending) (w' : World) : Prop :=
  ∃ v, e = .returned (.tuple #[v, .int .i64 0]) ∧ Own w' w.heap.size 53 2 spn v (sp (cl l (lst l k.toNat) n)) ∧ Below w.heap.size w w'
def Cut.In (l : List Int) (M : Int) (n : Nat) (w : World) (o s i : Value) (wr : World) : Prop :=
  ∃ q : Nat, q ≤ n ∧ i = .int .i64 q ∧ s = .int .i64 (gz l M q).2 ∧ Own wr w.heap.size 53 2 spn o (sp (cl l M q)) ∧ Below w.heap.size w wr
set_option maxRecDepth 100000 in
set_option maxHeartbeats 4000000 in
theorem zone_cut (A : Option Addr) (n c B : Nat) (l : List Int) (k : Int) (w : World) (hr : Rd w B 1 A n (l.map (Value.int .i64))) (hB : B ≤ w.heap.size) (hl : l.length = n) (hok : okW l k = true) :
    Calls Try.prog 24 #[.slice A n c, .int .i64 k] w (Cut.Post l k n w) := by
  obtain ⟨hn0, hn, hk, -⟩ := okW_yes hok
  rw [hl] at hn0 hn
  have hgood := okW_good hok
  have hL0 := lst_nonneg hgood k.toNat (by omega)
  have hL1 : lst l k.toNat ≤ 134217728 := by have a := lst_sum hgood k.toNat; have b := pre_range hok l.length; omega
  have hLe := lst_elem hgood k.toNat
  have hC := zone_least A n c B l k w hr hl hok
  unfold Cut.Post
  generalize hM : lst l k.toNat = M at *
  have HLe := hide hLe
  have HC := hide hC
  have Hl := hide hl
  have Hok := hide hok
  have hown0 := Own.block (base := w.heap.size) (f := spn) (sz := 2) w 53 #[.int .i64 0, .int .i64 0] [(0, 0)] (Nat.le_refl _) rfl spn_len (by simp)
  have HO0 := hide hown0
  clear hl hok hC hM hgood hLe hown0
  go_enter Try.func24, Try.ntmps24
  go_wp2_with (go_at_call 23; refine (HC.out).mono ?_; rintro e w1 ⟨rfl, rfl⟩)
  go_loopw [8, 9, 25] (fun o s i wr => Cut.In l M n w o s i wr) (fun _ _ i _ => n - (intOf i).toNat)
  case atStart => exact ⟨0, Nat.zero_le _, rfl, rfl, HO0.out, by go_grown⟩
  case round =>
    obtain ⟨q, hq, rfl, rfl, hown, hbel⟩ := hrel
    by_cases hlt : q < n
    · obtain ⟨b, off, x, rfl, hb, hg, c0⟩ := (hr.below (hbel.mono hB)).int_at Hl.out hlt
      have hz := hbel.size
      obtain ⟨r1, r2, r3, r4⟩ := gz_range (okW_good Hok.out) hL0 q (fun i hi => HLe.out i (by rw [Hl.out]; omega))
      have hx := okW_wt Hok.out q
      rw [wt_get hg] at hx
      obtain ⟨x0, x1⟩ := hx
      have hst : gz l M (q + 1) = if (gz l M q).2 + x > M then ((gz l M q).1 + 1, x) else ((gz l M q).1, (gz l M q).2 + x) := by simp only [gz, wt_get hg]
      have hlen := cl_le l M q
      have hpos := cl_pos l M q
      have hlast := cl_last l M q
      have hwq := wt_get hg
      by_cases hgt : M < (gz l M q).2 + x
      · have hE := hide (show (gz l M (q + 1)).2 = x by rw [hst, if_pos hgt])
        have hcl := hide (cl_new (l := l) (M := M) (n := q) (by rw [hwq]; exact hgt))
        have HO := hide hown
        generalize (gz l M q).2 = s at *
        generalize hL : cl l M q = L at *
        have hsl := hide (sp_length L)
        clear hst hg hr hwq hlast hown hL r1 r2
        go_wp2_with (at_builtin; refine push rfl _ _ 48 rfl Try.underlying48 Zone.info rfl (by omega) (by omega) rfl (HO.out.alloc _) ((q : Int), (q : Int)) ⟨_, 0, none⟩ 1 rfl rfl (two_new _ _ _ _) (by simp [Value.oneCell']) (by rw [hsl.out]; omega) (Nat.le_trans hz (by simp)) ?_; intro v' w1 hown1 hb1; obtain ⟨g, cap, rfl, hgB, hgW, hcap, -, -⟩ := hown1.at_ (by simp); have hlen1 : (sp L ++ [((q : Int), (q : Int))]).length = L.length + 1 := (by simp [sp_length]); rw [hlen1] at hown1 hcap ⊢; obtain ⟨k0, k1, f0, f1⟩ := hown1.span_at hlen1 (z := L.length) (a := q) (b := q) (by rw [List.getElem?_append_right (by rw [sp_length]; omega), sp_length]; simp); have hst := hide (hown1.store_to hlen1 (z := L.length) (a := q) (b := q) (by rw [List.getElem?_append_right (by rw [sp_length]; omega), sp_length]; simp) ((q : Int) + 1)); clear hown1 hlen1)
        go_roundw
        case rel =>
          refine ⟨q + 1, by omega, by go_num, by rw [hE.out], ?_, (hbel.alloc hz _).trans (hb1.trans hst.out.2)⟩
          have h1 := hst.out.1
          rw [List.set_append_right _ _ (by rw [sp_length]; omega), sp_length, Nat.sub_self] at h1
          rw [hcl.out, sp_app]
          exact h1
        case measure => simp [intOf]; omega
      · have hE := hide (show (gz l M (q + 1)).2 = (gz l M q).2 + x by rw [hst, if_neg hgt])
        have hcl := hide (cl_old (l := l) (M := M) (n := q) (by rw [hwq]; exact hgt))
        have hle : (gz l M q).2 + x ≤ M := by omega
        have HO := hide hown
        generalize (gz l M q).2 = s at *
        generalize hL : cl l M q = L at *
        generalize (cs l M q).2 = p at *
        obtain ⟨z, hz1⟩ : ∃ z, L.length = z + 1 := ⟨L.length - 1, by omega⟩
        rw [hz1, Nat.add_sub_cancel] at hlast
        have hlen1 : (sp L).length = z + 1 := by rw [sp_length]; exact hz1
        obtain ⟨g, cap, ho, hgB, hgW, hcap, -, -⟩ := HO.out.at_ (by omega)
        subst ho
        rw [hlen1] at hcap HO ⊢
        obtain ⟨k0, k1, f0, f1⟩ := HO.out.span_at hlen1 (sp_get hlast)
        have hst := hide (HO.out.store_to hlen1 (sp_get hlast) ((q : Int) + 1))
        have hz2 : z ≤ 200 := by omega
        have HZ := hide hz1
        have hh := hide (show cl l M (q + 1) = L.set z (p, q + 1) by rw [hcl.out, hz1]; rfl)
        clear hg hr hwq hlast hown hL r1 r2 hcl hz1 hlen1 hgt HO
        go_wp2_with fail
        go_roundw
        case rel =>
          refine ⟨q + 1, by omega, by go_num, by rw [hE.out], ?_, hbel.trans hst.out.2⟩
          have h1 := hst.out.1
          rw [hh.out, sp_set]
          exact h1
        case measure => simp [intOf]; omega
    · obtain rfl : q = n := by omega
      have HO := hide hown
      clear hown
      go_wp2_with fail
      go_ret2
      exact ⟨_, rfl, HO.out, hbel⟩
end Go.Proofs.Ytalecppofemcnaa
