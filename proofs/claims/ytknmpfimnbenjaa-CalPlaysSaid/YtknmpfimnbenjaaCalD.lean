/-
  The walk of the calendar's Set.
-/
import Derived.Test.YtknmpfimnbenjaaCalC
import Derived.Deep.DeepCutAuto
import Derived.WalkSpells
namespace Go.Proofs.Ytknmpfimnbenjaa
open Go.RowKit HB HeapP Go.Maps CalP
set_option linter.unusedVariables false
set_option linter.unusedSimpArgs false
theorem modify_push {α : Type} (h : Array α) (o : α) (i : Nat) (f : α → α) (hi : i < h.size) : (h.push o).modify i f = (h.modify i f).push o := by
  apply Array.ext
  · simp
  · intro j h1 h2
    simp only [Array.getElem_modify, Array.getElem_push, Array.size_modify]
    by_cases hj : j < h.size
    · simp [hj]
    · have : ¬ i = j := by omega
      simp [hj, this]
theorem setCell_alloc (w : World) (o : Obj) (a : Addr) (v : Value) (h : a.block < w.heap.size) : (w.alloc o).setCell a v = (w.setCell a v).alloc o := by
  unfold World.setCell World.alloc
  simp only
  rw [modify_push _ _ _ _ h]
namespace CalP
theorem Cs.wx {w : World} {p g n : Nat} {m : Option Nat} {L l : List En} (h : Cs w p g m n L l) : ∀ k, Xb p g m k → k < w.heap.size := fun k hk => h.xlt hk
theorem Cs.made {w : World} {p g n : Nat} {L l : List En} (h : Cs w p g none n L l) : Cs ((w.alloc (.map #[] 0)).setCell ⟨p, 1, none⟩ (.map (some w.heap.size))) p g (some w.heap.size) 0 L l ∧ But (Xb p g none) w ((w.alloc (.map #[] 0)).setCell ⟨p, 1, none⟩ (.map (some w.heap.size))) := by
  have hb := (Below.refl w.heap.size w).alloc (Nat.le_refl _) (.map #[] 0)
  have h2 := h.below hb
  have hl : l = [] := by
    rcases h.mp with ⟨_, h⟩ | ⟨b, _, h, _⟩
    · exact h
    · cases h
  have hpl := h.pl
  have hgl := h.hp.gl
  refine ⟨⟨?_, World.cell?_setCell_same _ _ _ h2.mc, by rw [World.frozen?_setCell]; exact h2.mf, h.ch, ?_, fun b hb => by injection hb with hb; omega⟩, (But.of_below hb).set (a := ⟨p, 1, none⟩) (.inl (.inl rfl)) _⟩
  · obtain ⟨v, h1, h2, h3, h4, h5⟩ := h2.hp
    refine ⟨v, ?_, by rw [World.frozen?_setCell]; exact h2, by simpa using h3, h4.other fun b k c hv => Below.heap_setCell _ _ _ _ ?_, ?_⟩
    · rw [World.cell?_setCell_other _ _ _ _ (by intro e; injection e with _ e _; exact absurd e (by decide))]; exact h1
    · rcases h5 with ⟨rfl, _⟩ | ⟨c', rfl, _, hg, _⟩
      · simp at hv
      · simp at hv; obtain ⟨rfl, _⟩ := hv; exact hg
    · rcases h5 with h5 | ⟨c, h6, h7, h8, h9⟩
      · exact .inl h5
      · exact .inr ⟨c, h6, h7, h8, by simpa using h9⟩
  · subst hl
    refine (Mp.made w).kept (row := some p) ⟨rfl, rfl, rfl, by simp, fun k hk hne => Below.heap_setCell _ _ _ _ (fun e => hne (by rw [e]))⟩ (fun b hb e => ?_)
    injection hb with hb; injection e with e; omega
end CalP
def CSet (p g n : Nat) (m : Option Nat) (L l : List En) (e : En) (w w' : World) : Prop :=
  ∃ g' b n' L', (∀ l', Srt l' → l'.Perm (e :: wo l e.k e.i) → Cs w' p g' (some b) n' L' l') ∧ L'.length ≤ L.length + 1 ∧ n' ≤ n + 1 ∧ But (Xb p g m) w w' ∧ (∀ k, k < w.heap.size → Xb p g' (some b) k → Xb p g m k)
set_option maxRecDepth 100000 in
set_option maxHeartbeats 8000000 in
theorem cal_set (p g n N : Nat) (m : Option Nat) (L l : List En) (e : En) (w : World) (h : Cs w p g m n L l) (hl : L.length = N) (hN : N ≤ 100000) (hn : n ≤ 100000) (he : wfE e) :
    Calls Try.prog 72 #[.pointer (some ⟨p, 0, none⟩), .int .i64 e.k, .int .i64 e.i, .int .i64 e.t] w fun r w' => r = .returned (.tuple #[]) ∧ CSet p g n m L l e w w' := by
  have HC := hide h
  have Hl := hide hl
  have hpl := h.pl
  have hgl := h.hp.gl
  clear h hl
  have hnil := fun (W : World) (r : Option Nat) => run_eql_map_nil (P := Try.prog) W _ _ _ r Try.underlying86
  have hmm := @run_makeMap Try.prog
  go_enter Try.func72, Try.ntmps72
  have c1 := HC.out.mc
  have f1 := HC.out.mf
  go_upto_if 14 with (fail)
  go_cut [] (fun wx => ∃ b n', Cs wx p g (some b) n' L l ∧ n' ≤ n ∧ But (Xb p g m) w wx ∧ (m = some b ∨ w.heap.size ≤ b))
  case first =>
    cases m with
    | none =>
      have hsw : (w.alloc (.map #[] 0)).setCell ⟨p, 1, none⟩ (.map (some w.heap.size)) = (w.setCell ⟨p, 1, none⟩ (.map (some w.heap.size))).alloc (.map #[] 0) := setCell_alloc _ _ _ _ hpl
      have hmd := HC.out.made
      rw [hsw] at hmd
      have HM := hide hmd
      clear hsw hmd
      go_wp2_with fail
      go_meet
      exact ⟨_, 0, HM.out.1, Nat.zero_le _, HM.out.2, .inr (Nat.le_refl _)⟩
    | some b =>
      go_wp2_with fail
      go_meet
      exact ⟨b, n, HC.out, Nat.le_refl _, But.refl _ _, .inl rfl⟩
  case rest =>
    obtain ⟨b, n', hc, hn', hbut, hm⟩ := hcut
    have HCC := hide hc
    have HO := hide hbut
    have HM := hide hm
    have HX := hide HC.out.wx
    obtain ⟨c, ok, hT, hrun⟩ := hc.look he.2.1 he.2.2
    have HT := hide hT
    have HRN := hide hrun
    have hzw := hbut.size
    clear c1 f1
    have c1 := hc.mc
    clear hT hrun hc hbut hm HC
    go_upto_region 2 with (fail)
    go_region_held3 (fun w' => w'.cell? ⟨p, 1, none⟩ = some (.map (some b)) ∧ (Instr.lookup 86 (.map (some b)) (.agg #[.int .i64 e.k, .int .i64 e.i]) true).run Try.prog w' = .ok (.tuple #[.int .i64 c, .bool ok]) w' ∧ Below wc.heap.size wc w')
      (first | (go_split_ands; exact ⟨hold1 hb4 ‹_›, HRN.out _ ((‹Below wc.heap.size wc _›).trans (hb4.mono (‹Below wc.heap.size wc _›).size)), (‹Below wc.heap.size wc _›).trans (hb4.mono (‹Below wc.heap.size wc _›).size)⟩) | (exact ⟨c1, HRN.out _ (Below.refl _ _).drew, (Below.refl _ _).drew⟩) | (go_split_ands; exact ⟨‹_›, ‹_›, ‹_›⟩))
      (first | (go_at_call 73; refine (cal_key _ _ _).mono ?_; rintro r w4 ⟨rfl, hb4⟩))
    have HB4 := hide (show Below wc.heap.size wc w4 from by go_split_ands; assumption)
    rename_i hH
    clear hH hb4 c1
    have HC4 := hide (HCC.out.below HB4.out)
    have HO4 := hide (HO.out.then_ HB4.out)
    have c4 := HC4.out.mc
    have hz4 := HB4.out.size
    clear HRN
    have HXB := hide (fun i (hi : i < w.heap.size) (hx : Xb p g (some b) i) => (show Xb p g m i from by
      rcases hx with h | h | h
      · exact .inl h
      · exact .inr (.inl h)
      · injection h with h
        rcases HM.out with h2 | h2
        · exact .inr (.inr (by rw [h2, h]))
        · omega))
    have HOT := hide HO4.out
    by_cases hcase : ok = true ∧ c = e.t
    · obtain ⟨rfl, rfl⟩ := hcase
      have HE := hide (show e ∈ l from by
        rcases HT.out with ⟨_, x, hx, h1, h2, h3⟩ | ⟨h, _⟩
        · have : x = e := by
            obtain ⟨a, d, f⟩ := x
            have h1' : d = e.k := h1
            have h2' : f = e.i := h2
            have h3' : a = e.t := h3
            rw [h1', h2', h3']
          rw [← this]; exact hx
        · cases h)
      go_wp2_with fail
      refine bodyPost_ret (results_none rfl _ _ _) rfl ?_
      refine ⟨rfl, g, b, n', L, fun l' h1 h2 => ?_, by omega, by omega, HO4.out, fun k hk hx => HXB.out k hk hx⟩
      obtain ⟨h3, h4⟩ := HC4.out.ch.same HE.out h1 h2
      exact ⟨HC4.out.hp, HC4.out.mc, HC4.out.mf, h3, HC4.out.mp.perm h4.symm, HC4.out.ne⟩
    · have hbr : ok = false ∨ (ok = true ∧ (c == e.t) = false) := by
        cases ok with
        | false => exact .inl rfl
        | true => exact .inr ⟨rfl, by simpa using hcase⟩
      clear hcase HT HO HCC
      rcases hbr with rfl | ⟨rfl, hcc⟩
      · go_wp2_with fail
        go_region_with (go_at_call 73; refine (cal_key e.k e.i _).mono ?_; rintro r w5 ⟨rfl, hb5⟩; have hb : Below w4.heap.size w4 w5 := (Below.refl _ _).drew.trans hb5; obtain ⟨w6, hrun6, hmp6, hgr6⟩ := (HC4.out.mp.below hb).store HC4.out.ch.uq HC4.out.ch.wfl (by simp only [maxLen]; omega) he; have c5 := hold1 hb c4; have HM6 := hide hmp6; have HG6 := hide hgr6; have HB5 := hide hb; clear hmp6 hgr6 hb hb5)
        all_goals
          have HC5 := hide (HC4.out.below HB5.out)
          have HPS := hide (heap_push p g N L e w6 (HC5.out.hp.grown HG6.out (fun h => (HC5.out.ne p h.symm).1 rfl) (fun h => (HC5.out.ne g h.symm).2 rfl)) HC5.out.ch.heap Hl.out (by omega))
          go_wp2_with (go_at_call 65; refine (HPS.out).mono ?_; rintro r w8 ⟨rfl, g', L8, hp8, hi8, hm8, ho8, hg8⟩; have HP8 := hide hp8; have HI8 := hide hi8; have HM8 := hide hm8; have HO8 := hide ho8; have HG8 := hide hg8; clear hp8 hi8 hm8 ho8 hg8)
          go_end0
          have h56 := HG6.out.size
          have h45 := HB5.out.size
          refine ⟨rfl, g', b, n' + 1, L8, fun l' h1 h2 => HC5.out.set_ HG6.out HM6.out HP8.out HO8.out HG8.out (HC5.out.ch.set he HI8.out HM8.out h1 h2) h2.symm, by have := HM8.out.length_eq; simp only [List.length_cons] at this; omega, by omega, ?_, ?_⟩
          · exact ((HO4.out.then_ HB5.out).trans (Y := Xb p g (some b)) (But.of_grown HG6.out (fun k hk => .inr (.inr hk))) HXB.out).trans (Y := Xb p g (some b)) (But.of_only HO8.out (.inl rfl) (.inr (.inl rfl))) HXB.out
          · intro k hk hx
            rcases hx with h | h | h
            · exact .inl h
            · rcases HG8.out with h2 | h2
              · exact .inr (.inl (h.trans h2))
              · omega
            · exact HXB.out k hk (.inr (.inr h))
      · go_wp2_with fail
        go_region_with (go_at_call 73; refine (cal_key e.k e.i _).mono ?_; rintro r w5 ⟨rfl, hb5⟩; have hb : Below w4.heap.size w4 w5 := (Below.refl _ _).drew.trans hb5; obtain ⟨w6, hrun6, hmp6, hgr6⟩ := (HC4.out.mp.below hb).store HC4.out.ch.uq HC4.out.ch.wfl (by simp only [maxLen]; omega) he; have c5 := hold1 hb c4; have HM6 := hide hmp6; have HG6 := hide hgr6; have HB5 := hide hb; clear hmp6 hgr6 hb hb5)
        all_goals
          have HC5 := hide (HC4.out.below HB5.out)
          have HPS := hide (heap_push p g N L e w6 (HC5.out.hp.grown HG6.out (fun h => (HC5.out.ne p h.symm).1 rfl) (fun h => (HC5.out.ne g h.symm).2 rfl)) HC5.out.ch.heap Hl.out (by omega))
          go_wp2_with (go_at_call 65; refine (HPS.out).mono ?_; rintro r w8 ⟨rfl, g', L8, hp8, hi8, hm8, ho8, hg8⟩; have HP8 := hide hp8; have HI8 := hide hi8; have HM8 := hide hm8; have HO8 := hide ho8; have HG8 := hide hg8; clear hp8 hi8 hm8 ho8 hg8)
          go_end0
          have h56 := HG6.out.size
          have h45 := HB5.out.size
          refine ⟨rfl, g', b, n' + 1, L8, fun l' h1 h2 => HC5.out.set_ HG6.out HM6.out HP8.out HO8.out HG8.out (HC5.out.ch.set he HI8.out HM8.out h1 h2) h2.symm, by have := HM8.out.length_eq; simp only [List.length_cons] at this; omega, by omega, ?_, ?_⟩
          · exact ((HO4.out.then_ HB5.out).trans (Y := Xb p g (some b)) (But.of_grown HG6.out (fun k hk => .inr (.inr hk))) HXB.out).trans (Y := Xb p g (some b)) (But.of_only HO8.out (.inl rfl) (.inr (.inl rfl))) HXB.out
          · intro k hk hx
            rcases hx with h | h | h
            · exact .inl h
            · rcases HG8.out with h2 | h2
              · exact .inr (.inl (h.trans h2))
              · omega
            · exact HXB.out k hk (.inr (.inr h))
end Go.Proofs.Ytknmpfimnbenjaa
