/-
  The calendar in the world; the walks of key, At, Len, Drop, Clear.
-/
import Derived.Test.YtknmpfimnbenjaaCalMap
import Derived.Test.YtknmpfimnbenjaaHeapStep
namespace Go.Proofs.Ytknmpfimnbenjaa
open Go.RowKit HB HeapP Go.Maps CalP
set_option linter.unusedVariables false
set_option linter.unusedSimpArgs false
namespace HB
/-- but for blocks of X, the world is as it was, or has grown -/
structure But (X : Nat → Prop) (w w' : World) : Prop where
  os : w'.os = w.os
  tape : w'.tape = w.tape
  output : w'.output = w.output
  size : w.heap.size ≤ w'.heap.size
  block : ∀ k, k < w.heap.size → ¬ X k → w'.heap[k]? = w.heap[k]?
section
variable {X Y : Nat → Prop} {w w1 w' : World} {p g B : Nat} {m row : Option Nat}
theorem But.refl (X : Nat → Prop) (w : World) : But X w w := ⟨rfl, rfl, rfl, Nat.le_refl _, fun _ _ _ => rfl⟩
theorem But.trans (h : But X w w1) (k : But Y w1 w') (hs : ∀ i, i < w.heap.size → Y i → X i) : But X w w' :=
  ⟨k.os.trans h.os, k.tape.trans h.tape, k.output.trans h.output, Nat.le_trans h.size k.size, fun i hi hx => (k.block i (by have := h.size; omega) (fun hy => hx (hs i hi hy))).trans (h.block i hi hx)⟩
theorem But.of_below (h : Below w.heap.size w w') : But X w w' := ⟨h.os, h.tape, h.output, h.size, fun k hk _ => h.block k hk⟩
theorem But.then_ (h : But X w w1) (hb : Below w1.heap.size w1 w') : But X w w' := h.trans (Y := X) (But.of_below hb) (fun _ _ h => h)
theorem But.of_grown (h : w.grownBy w' row) (hx : ∀ k, row = some k → X k) : But X w w' := ⟨h.os, h.tape, h.output, h.size, fun k hk h1 => h.block k hk (fun h2 => h1 (hx k h2.symm))⟩
theorem But.grown (h : But X w w1) (hg : w1.grownBy w' row) (hx : ∀ k, row = some k → k < w.heap.size → X k) : But X w w' :=
  h.trans (Y := fun k => row = some k) (But.of_grown hg fun _ h => h) (fun i hi hy => hx i hy hi)
theorem But.of_only (h : Only p g w w') (hp : X p) (hg : X g) : But X w w' :=
  ⟨h.os, h.tape, h.output, h.size, fun k hk h1 => h.block k hk (fun e => h1 (e ▸ hp)) (fun e => h1 (e ▸ hg))⟩
theorem But.set (h : But X w w') {a : Addr} (ha : X a.block ∨ w.heap.size ≤ a.block) (u : Value) : But X w (w'.setCell a u) :=
  ⟨h.os, h.tape, h.output, by have := h.size; simpa using this, fun k hk h1 => by
    rw [Below.heap_setCell _ _ _ _ (by
      intro e; subst e
      rcases ha with h2 | h2
      · exact h1 h2
      · omega)]
    exact h.block k hk h1⟩
theorem But.below (h : But X w w') (hX : ∀ k, X k → B ≤ k) (hB : B ≤ w.heap.size) : Below B w w' :=
  ⟨h.os, h.tape, h.output, h.size, fun k hk => h.block k (by omega) (fun h1 => by have := hX k h1; omega)⟩
theorem But.mono (h : But X w w') (hs : ∀ i, i < w.heap.size → X i → Y i) : But Y w w' :=
  ⟨h.os, h.tape, h.output, h.size, fun i hi hy => h.block i hi (fun hx => hy (hs i hi hx))⟩
theorem But.cell (h : But X w w') {a : Addr} {u : Value} (hc : w.cell? a = some u) (hx : ¬ X a.block) : w'.cell? a = some u := by
  have hk := World.block_lt_of_cell? w a hc
  have := h.block a.block hk hx
  unfold World.cell? at *
  rw [this]; exact hc
/-- a row of entries that lies in no block of X -/
def RdB (w : World) (X : Nat → Prop) (A : Option Addr) (n : Nat) (l : List En) : Prop := Rd w w.heap.size 3 A n (l.flatMap ent) ∧ (0 < n → ∀ a, A = some a → ¬ X a.block)
theorem RdB.but {A : Option Addr} {n : Nat} {l : List En} (h : RdB w X A n l) (ho : But X w w') (hg : ∀ i, i < w.heap.size → Y i → X i) : RdB w' Y A n l := by
  obtain ⟨⟨h1, h2⟩, h3⟩ := h
  refine ⟨⟨h1, fun hn => ?_⟩, fun hn a ha => ?_⟩
  · obtain ⟨b, off, rfl, hb, hc⟩ := h2 hn
    have := h3 hn _ rfl
    exact ⟨b, off, rfl, Nat.lt_of_lt_of_le hb ho.size, fun j u hu => ho.cell (a := ⟨b, off + j, none⟩) (hc j u hu) this⟩
  · obtain ⟨b, off, hA, hb, hc⟩ := h2 hn
    have := h3 hn _ ha
    rw [hA] at ha
    injection ha with ha
    subst ha
    exact fun hy => this (hg _ hb hy)
theorem RdB.fresh {A : Option Addr} {base c : Nat} {e : TypeId} {l : List En} (h : Own w base e 3 ent (.slice A l.length c) l) (hX : ∀ k, base ≤ k → ¬ X k) : RdB w X A l.length l := by
  refine ⟨Rd.own h.row, fun hn a ha => ?_⟩
  subst ha
  obtain ⟨b, cap, hv, hb, _⟩ := h.at_ hn
  simp only [Value.slice.injEq, Option.some.injEq] at hv
  obtain ⟨rfl, _⟩ := hv
  exact hX _ hb
theorem RdB.cut {A : Option Addr} {n : Nat} {l : List En} (h : RdB w X A n l) {k cap : Nat} (hk : k ≤ n) (hc : n ≤ cap) : RdB w X (if cap = k then A else A.map (·.add (k * 3))) (n - k) (l.drop k) := by
  refine ⟨by have := h.1.cut hk hc; rwa [flat_drop ent_len] at this, fun hn a ha => ?_⟩
  have h2 : 0 < n := by omega
  rw [if_neg (by omega)] at ha
  cases A with
  | none => cases ha
  | some ad =>
    simp only [Option.map_some, Option.some.injEq] at ha
    subst ha
    have := h.2 h2 _ rfl
    have hb : (ad.add (k * 3)).block = ad.block := by unfold Addr.add; split <;> rfl
    rw [hb]; exact this
end
end HB
namespace CalP
/-- the calendar's blocks: its own, the heap's row, the map -/
def Xb (p g : Nat) (m : Option Nat) (k : Nat) : Prop := k = p ∨ k = g ∨ m = some k
/-- the calendar at block p -/
structure Cs (w : World) (p g : Nat) (m : Option Nat) (n : Nat) (L l : List En) : Prop where
  hp : Hp w p g L
  mc : w.cell? ⟨p, 1, none⟩ = some (.map m)
  mf : w.frozen? ⟨p, 1, none⟩ = false
  ch : Ch L l
  mp : Mp w m n l
  ne : ∀ b, m = some b → b ≠ p ∧ b ≠ g
section
variable {w w' : World} {p g n : Nat} {m : Option Nat} {L l : List En}
theorem Cs.pl (h : Cs w p g m n L l) : p < w.heap.size := h.hp.pl
theorem Cs.below (h : Cs w p g m n L l) (hb : Below w.heap.size w w') : Cs w' p g m n L l :=
  ⟨h.hp.below hb, hold1 hb h.mc, (hb.frozen (p := ⟨p, 1, none⟩) h.pl).trans h.mf, h.ch, h.mp.below hb, h.ne⟩
theorem Cs.xlt (h : Cs w p g m n L l) {k : Nat} (hk : Xb p g m k) : k < w.heap.size := by
  rcases hk with rfl | rfl | hk
  · exact h.pl
  · exact h.hp.gl
  · exact h.mp.lt hk
theorem Cs.mapped {n' : Nat} {l' : List En} (h : Cs w p g m n L l) (hg : w.grownBy w' m) (hmp : Mp w' m n' l') (hch : Ch L l') : Cs w' p g m n' L l' := by
  have hp : some p ≠ m := fun e => (h.ne p e.symm).1 rfl
  have hgg : some g ≠ m := fun e => (h.ne g e.symm).2 rfl
  have hb := hg.block p h.pl hp
  exact ⟨h.hp.grown hg hp hgg, (World.cell?_of_block (a := ⟨p, 1, none⟩) hb).trans h.mc, (World.frozen?_of_block (a := ⟨p, 1, none⟩) hb).trans h.mf, hch, hmp, h.ne⟩
end
end CalP
set_option maxRecDepth 100000 in
theorem cal_key (k i : Int) (w : World) : Calls Try.prog 73 #[.int .i64 k, .int .i64 i] w fun e w' => e = .returned (.agg #[.int .i64 k, .int .i64 i]) ∧ Below w.heap.size w w' := by
  go_enter Try.func73, Try.ntmps73
  go_wp2_with fail
  go_returns
  exact ⟨rfl, (Below.refl _ _).alloc (Nat.le_refl _) _⟩
/-- what a look-up says: the time, and if there is one -/
def Told (l : List En) (k i c : Int) (ok : Bool) : Prop := (ok = true ∧ ∃ e ∈ l, e.k = k ∧ e.i = i ∧ e.t = c) ∨ (ok = false ∧ c = 0 ∧ ∀ e ∈ l, ¬ (e.k = k ∧ e.i = i))
theorem CalP.Told.fun_ {l : List En} (hu : Uq l) {k i c c' : Int} {ok ok' : Bool} (h : Told l k i c ok) (h' : Told l k i c' ok') : c = c' ∧ ok = ok' := by
  rcases h with ⟨rfl, e, he, h1, h2, h3⟩ | ⟨rfl, rfl, h1⟩ <;> rcases h' with ⟨rfl, e', he', h1', h2', h3'⟩ | ⟨rfl, rfl, h1'⟩
  · have := hu.same he he' (by rw [h1, h1']) (by rw [h2, h2'])
    subst this
    exact ⟨h3.symm.trans h3', rfl⟩
  · exact absurd ⟨h1, h2⟩ (h1' e he)
  · exact absurd ⟨h1', h2'⟩ (h1 e' he')
  · exact ⟨rfl, rfl⟩
theorem CalP.Cs.look {w : World} {p g n : Nat} {m : Option Nat} {L l : List En} (h : Cs w p g m n L l) {k i : Int} (hk : inI k) (hi : inI i) :
    ∃ c ok, Told l k i c ok ∧ ∀ w', Below w.heap.size w w' → (Instr.lookup MT (.map m) (.agg #[.int .i64 k, .int .i64 i]) true).run Try.prog w' = .ok (.tuple #[.int .i64 c, .bool ok]) w' := by
  obtain ⟨c, ok, -, hT⟩ := h.mp.look h.ch.uq hk hi
  refine ⟨c, ok, hT, fun w' hb => ?_⟩
  obtain ⟨c', ok', hrun, hT'⟩ := (h.mp.below hb).look h.ch.uq hk hi
  obtain ⟨rfl, rfl⟩ := Told.fun_ h.ch.uq hT hT'
  exact hrun
set_option maxRecDepth 100000 in
theorem cal_len (p g n : Nat) (m : Option Nat) (L l : List En) (w : World) (h : Cs w p g m n L l) :
    Calls Try.prog 47 #[.pointer (some ⟨p, 0, none⟩)] w fun e w' => e = .returned (.int .i64 l.length) ∧ w' = w := by
  have c1 := h.mc
  have hrun := fun ty => h.mp.len ty
  clear h
  go_enter Try.func47, Try.ntmps47
  go_wp2_with fail
  go_ret
  exact ⟨rfl, rfl⟩
set_option maxRecDepth 100000 in
theorem cal_at (p g n : Nat) (m : Option Nat) (L l : List En) (k i : Int) (w : World) (h : Cs w p g m n L l) (hk : inI k) (hi : inI i) :
    Calls Try.prog 70 #[.pointer (some ⟨p, 0, none⟩), .int .i64 k, .int .i64 i] w fun e w' => (∃ c ok, e = .returned (.tuple #[.int .i64 c, .bool ok]) ∧ Told l k i c ok) ∧ Below w.heap.size w w' := by
  have c1 := h.mc
  obtain ⟨c, ok, hT, hrun⟩ := h.look hk hi
  have HT := hide hT
  have HR := hide hrun
  clear h hT hrun
  go_enter Try.func70, Try.ntmps70
  go_wp2_with fail
  go_region_held3 (fun w' => w'.cell? ⟨p, 1, none⟩ = some (.map m) ∧ (Instr.lookup 86 (.map m) (.agg #[.int .i64 k, .int .i64 i]) true).run Try.prog w' = .ok (.tuple #[.int .i64 c, .bool ok]) w' ∧ Below w.heap.size w w')
    (first | (go_split_ands; exact ⟨hold1 hb4 ‹_›, HR.out _ ((‹Below w.heap.size w _›).trans (hb4.mono (‹Below w.heap.size w _›).size)), (‹Below w.heap.size w _›).trans (hb4.mono (‹Below w.heap.size w _›).size)⟩) | (exact ⟨c1, HR.out _ (Below.refl _ _).drew, (Below.refl _ _).drew⟩) | (go_split_ands; exact ⟨‹_›, ‹_›, ‹_›⟩))
    (first | (go_at_call 73; refine (cal_key k i _).mono ?_; rintro e w4 ⟨rfl, hb4⟩))
  go_wp2_with fail
  go_ret2
  exact ⟨⟨c, ok, rfl, HT.out⟩, by go_split_ands; assumption⟩
set_option maxRecDepth 100000 in
theorem cal_drop (p g n : Nat) (m : Option Nat) (L l : List En) (k i : Int) (w : World) (h : Cs w p g m n L l) (hk : inI k) (hi : inI i) :
    Calls Try.prog 68 #[.pointer (some ⟨p, 0, none⟩), .int .i64 k, .int .i64 i] w fun e w' => (∃ c ok, e = .returned (.bool ok) ∧ Told l k i c ok) ∧ Cs w' p g m n L (wo l k i) ∧ But (Xb p g m) w w' := by
  have c1 := h.mc
  obtain ⟨c, ok, hT, hrun⟩ := h.look hk hi
  have HT := hide hT
  have HR := hide hrun
  have HC := hide h
  clear h hT hrun
  go_enter Try.func68, Try.ntmps68
  go_wp2_with fail
  go_region_held3 (fun w' => w'.cell? ⟨p, 1, none⟩ = some (.map m) ∧ (Instr.lookup 86 (.map m) (.agg #[.int .i64 k, .int .i64 i]) true).run Try.prog w' = .ok (.tuple #[.int .i64 c, .bool ok]) w' ∧ Below w.heap.size w w')
    (first | (go_split_ands; exact ⟨hold1 hb4 ‹_›, HR.out _ ((‹Below w.heap.size w _›).trans (hb4.mono (‹Below w.heap.size w _›).size)), (‹Below w.heap.size w _›).trans (hb4.mono (‹Below w.heap.size w _›).size)⟩) | (exact ⟨c1, HR.out _ (Below.refl _ _).drew, (Below.refl _ _).drew⟩) | (go_split_ands; exact ⟨‹_›, ‹_›, ‹_›⟩))
    (first | (go_at_call 73; refine (cal_key k i _).mono ?_; rintro e w4 ⟨rfl, hb4⟩))
  go_wp2_with fail
  have HB := hide (show Below w.heap.size w w4 from by go_split_ands; assumption)
  have c4 : w4.cell? ⟨p, 1, none⟩ = some (.map m) := by go_split_ands; assumption
  go_region_with (go_at_call 73; refine (cal_key k i _).mono ?_; rintro e w5 ⟨rfl, hb5⟩; have hb := HB.out.drew.trans (hb5.mono HB.out.size); obtain ⟨w6, hrun6, hmp6, hgr6⟩ := (HC.out.mp.below hb).drop HC.out.ch.uq HC.out.ch.wfl hk hi 0; have c5 := hold1 hb HC.out.mc; have HM6 := hide hmp6; have HG6 := hide hgr6; have HB5 := hide hb; clear hmp6 hgr6 hb hb5)
  all_goals
    go_wp2_with fail
    go_ret
    exact ⟨⟨c, ok, rfl, HT.out⟩, (HC.out.below HB5.out).mapped HG6.out HM6.out (HC.out.ch.drop k i), (But.of_below HB5.out).grown HG6.out (fun q hq _ => .inr (.inr hq))⟩
theorem CalP.Cs.zero {w : World} {p g n : Nat} {m : Option Nat} {L : List En} (h : Cs w p g m n L []) : Cs (w.setCell ⟨p, 0, none⟩ (.slice none 0 0)) p p m n [] [] := by
  obtain ⟨v, h1, h2, h3, h4, h5⟩ := h.hp
  refine ⟨⟨.slice none 0 0, World.cell?_setCell_same w _ _ h1, by rw [World.frozen?_setCell]; exact h2, by simpa using h3, Own.nil _ _ _ _ _, .inl ⟨rfl, rfl, rfl⟩⟩, ?_, by rw [World.frozen?_setCell]; exact h.mf, ⟨by intro i x; unfold ok; simp, by simp [Srt], by simp, by simp, by simp⟩, ?_, fun b hb => ⟨(h.ne b hb).1, (h.ne b hb).1⟩⟩
  · rw [World.cell?_setCell_other w _ _ _ (by intro e; injection e with _ e _; exact absurd e (by decide))]; exact h.mc
  · refine h.mp.only (p := p) (g := p) ((Only.refl p p w).set (a := ⟨p, 0, none⟩) (.inl rfl) _) (fun b hb => ⟨(h.ne b hb).1, (h.ne b hb).1⟩)
set_option maxRecDepth 100000 in
theorem cal_clear (p g n : Nat) (m : Option Nat) (L l : List En) (w : World) (h : Cs w p g m n L l) :
    Calls Try.prog 71 #[.pointer (some ⟨p, 0, none⟩)] w fun e w' => e = .returned (.tuple #[]) ∧ Cs w' p p m n [] [] ∧ But (Xb p g m) w w' := by
  have c1 := h.mc
  obtain ⟨w6, hrun6, hmp6, hgr6⟩ := h.mp.clear 0
  have hc6 := h.mapped hgr6 hmp6 ⟨h.ch.heap, by simp [Srt], by simp, by simp, h.ch.wf⟩
  have HC := hide hc6
  have HB := hide (show But (Xb p g m) w w6 from But.of_grown hgr6 fun q hq => .inr (.inr hq))
  obtain ⟨v, v1, v2, v3, -, -⟩ := hc6.hp
  clear h hmp6 hgr6 hc6
  go_enter Try.func71, Try.ntmps71
  go_wp2_with fail
  go_end0
  exact ⟨rfl, HC.out.zero, HB.out.set (a := ⟨p, 0, none⟩) (.inl (.inl rfl)) _⟩
end Go.Proofs.Ytknmpfimnbenjaa
