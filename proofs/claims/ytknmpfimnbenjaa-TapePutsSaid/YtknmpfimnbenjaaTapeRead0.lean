/-
  What tape.Read holds: the reader, the log's box, its rows.
-/
import Derived.Test.YtknmpfimnbenjaaTapeLegs
import Derived.Maps.AppendAt
namespace Go.Proofs.Ytknmpfimnbenjaa
open Go.RowKit HB PackP TapeP
set_option linter.unusedVariables false
set_option linter.unusedSimpArgs false
namespace HB
theorem run_push1 {P : Program} {α : Type} {w : World} {base : Nat} {e : TypeId} {sz : Nat} {f : α → List Value} {v : Value} {l : List α} (t : TypeId) {z : Value} {bytes : Nat} (ht : P.underlying t = some (.slice e)) (hinfo : (P.info? e).map (fun i => (i.zero, i.size, i.bytes)) = some (some z, sz, bytes)) (hzs : z.cells.size = sz) (hsz : 0 < sz) (hby : bytes ≤ 1000)
    (hown : Own w base e sz f v l) (y : α) (ad : Addr) (c : Nat) (hl : (f y).length = sz) (hc : ∀ j u, (f y)[j]? = some u → w.cell? (ad.add j) = some u) (h1 : ∀ u ∈ f y, u.oneCell' = true)
    (hn : l.length ≤ 1000000000) (hbase : base ≤ w.heap.size) :
    ∀ ty, ∃ v' w', (Builtin.append_ #[t, t] ty #[v, .slice (some ad) 1 c]).run P w = .ok v' w' ∧ Own w' base e sz f v' (l ++ [y]) ∧ w.grownBy w' v.ownBlock ∧ (v'.ownBlock = v.ownBlock ∨ v'.ownBlock = some w.heap.size) := by
  intro ty
  obtain ⟨i, hi, hz, hzz, hbb⟩ := info_parts hinfo
  obtain ⟨v', w', hrun, k1, k2, -, k3⟩ := run_append_own_at (P := P) w base t ty e i z sz bytes ht hi hz hzz hbb hzs hsz v l.length (l.flatMap f) hown.row ad 1 c (f y) (by rw [hl, Nat.one_mul]) hc h1 (by simp only [maxLen]; omega) (Nat.le_trans (Nat.mul_le_mul_left _ hby) (by omega)) hbase
  refine ⟨v', w', hrun, ?_, k2, k3⟩
  show w'.ownsRow base e sz _ (l ++ [y]).length ((l ++ [y]).flatMap f)
  simpa using k1
theorem pushK1 {P : Program} {α : Type} {w : World} {base : Nat} {e : TypeId} {sz : Nat} {f : α → List Value} {v : Value} {l : List α} {ops : Array Oper} {o : Oper} {a : Act} {K : Act → World → Prop} {Q : Exit → Act → World → Prop} {E : Prop} (hgd : o.guard = none) (s x : Operand) (t : TypeId)
    (ho : o.op = .call { callee := .builtin .append, args := #[s, x], argTypes := #[t, t] })
    {z : Value} {bytes : Nat} (ht : P.underlying t = some (.slice e)) (hinfo : (P.info? e).map (fun i => (i.zero, i.size, i.bytes)) = some (some z, sz, bytes)) (hzs : z.cells.size = sz) (hsz : 0 < sz) (hby : bytes ≤ 1000)
    (hs : a.eval s = v) (hown : Own w base e sz f v l) (y : α) (ad : Addr) (c : Nat) (hx : a.eval x = .slice (some ad) 1 c) (hl : (f y).length = sz) (hc : ∀ j u, (f y)[j]? = some u → w.cell? (ad.add j) = some u) (h1 : ∀ u ∈ f y, u.oneCell' = true)
    (hn : l.length ≤ 1000000000) (hbase : base ≤ w.heap.size)
    (h : ∀ v' w', Own w' base e sz f v' (l ++ [y]) → w.grownBy w' v.ownBlock → (v'.ownBlock = v.ownBlock ∨ v'.ownBlock = some w.heap.size) → K (a.put o.dst v') w') : if Region.wanted o (yielded ops a.tmps) = true then Oper.wp P o a w K Q else E := by
  have hw : Region.wanted o (yielded ops a.tmps) = true := by simp [Region.wanted, hgd]
  rw [if_pos hw]
  obtain ⟨v', w', hr', h2, h3, h4⟩ := run_push1 (P := P) t ht hinfo hzs hsz hby hown y ad c hl hc h1 hn hbase o.type
  unfold Oper.wp execOp
  simp only [ho, resolve, invoke, builtin, Sem.run_bind, Sem.run_pure, Result.andThen_ok, List.map_toArray, List.map_cons, List.map_nil, hs, hx, hr']
  exact h v' w' h2 h3 h4
end HB
/-- three cells in a block, none frozen -/
structure L3 (w : World) (q : Nat) (a b c : Value) : Prop where
  hq : q < w.heap.size
  c0 : w.cell? ⟨q, 0, none⟩ = some a
  c1 : w.cell? ⟨q, 1, none⟩ = some b
  c2 : w.cell? ⟨q, 2, none⟩ = some c
  f0 : w.frozen? ⟨q, 0, none⟩ = false
  f1 : w.frozen? ⟨q, 1, none⟩ = false
  f2 : w.frozen? ⟨q, 2, none⟩ = false
theorem L3.new (w : World) (a b c : Value) (ty : TypeId) : L3 (w.alloc (.cells #[a, b, c] ty)) w.heap.size a b c := by
  refine ⟨by simp, ?_, ?_, ?_, World.frozen?_alloc_at _ _ _ _ rfl, World.frozen?_alloc_at _ _ _ _ rfl, World.frozen?_alloc_at _ _ _ _ rfl⟩
  · rw [cell_of_row _ w.heap.size 0 _ ty (0, 0) (heap_alloc_new w _)]; rfl
  · rw [cell_of_row _ w.heap.size 1 _ ty (0, 0) (heap_alloc_new w _)]; rfl
  · rw [cell_of_row _ w.heap.size 2 _ ty (0, 0) (heap_alloc_new w _)]; rfl
theorem L3.block {w w' : World} {q : Nat} {a b c : Value} (h : L3 w q a b c) (hb : w'.heap[q]? = w.heap[q]?) : L3 w' q a b c := by
  have k := fun j => World.cell?_of_block (w := w) (w' := w') (a := ⟨q, j, none⟩) hb
  have m := fun j => World.frozen?_of_block (w := w) (w' := w') (a := ⟨q, j, none⟩) hb
  refine ⟨?_, (k 0).trans h.c0, (k 1).trans h.c1, (k 2).trans h.c2, (m 0).trans h.f0, (m 1).trans h.f1, (m 2).trans h.f2⟩
  exact World.block_lt_of_cell? w' ⟨q, 0, none⟩ ((k 0).trans h.c0)
theorem L3.grown {w w' : World} {q : Nat} {a b c : Value} {row : Option Nat} (h : L3 w q a b c) (hg : w.grownBy w' row) (hne : some q ≠ row) : L3 w' q a b c := h.block (hg.block q h.hq hne)
theorem L3.below {w w' : World} {q D : Nat} {a b c : Value} (h : L3 w q a b c) (hb : Below D w w') (hq : q < D) : L3 w' q a b c := h.block (hb.block q hq)
theorem L3.set0 {w : World} {q : Nat} {a b c : Value} (h : L3 w q a b c) (y : Value) : L3 (w.setCell ⟨q, 0, none⟩ y) q y b c := by
  have n : ∀ j, j ≠ 0 → (⟨q, 0, none⟩ : Addr) ≠ ⟨q, j, none⟩ := fun j hj e => by injection e with _ e _; exact hj e.symm
  exact ⟨Nat.lt_of_lt_of_le h.hq (grown_setCell w q 0 _).size, World.cell?_setCell_same w _ _ h.c0, (World.cell?_setCell_other w _ _ _ (n 1 (by omega))).trans h.c1, (World.cell?_setCell_other w _ _ _ (n 2 (by omega))).trans h.c2, by rw [World.frozen?_setCell]; exact h.f0, by rw [World.frozen?_setCell]; exact h.f1, by rw [World.frozen?_setCell]; exact h.f2⟩
theorem L3.set1 {w : World} {q : Nat} {a b c : Value} (h : L3 w q a b c) (y : Value) : L3 (w.setCell ⟨q, 1, none⟩ y) q a y c := by
  have n : ∀ j, j ≠ 1 → (⟨q, 1, none⟩ : Addr) ≠ ⟨q, j, none⟩ := fun j hj e => by injection e with _ e _; exact hj e.symm
  exact ⟨Nat.lt_of_lt_of_le h.hq (grown_setCell w q 1 _).size, (World.cell?_setCell_other w _ _ _ (n 0 (by omega))).trans h.c0, World.cell?_setCell_same w _ _ h.c1, (World.cell?_setCell_other w _ _ _ (n 2 (by omega))).trans h.c2, by rw [World.frozen?_setCell]; exact h.f0, by rw [World.frozen?_setCell]; exact h.f1, by rw [World.frozen?_setCell]; exact h.f2⟩
abbrev OwnR (w : World) (base : Nat) (v : Value) (R : List RowL) : Prop := Own w base 97 1 rc v R
/-- the reader at p, the result's box at z, the log's box at q, its trips t and its rows v -/
structure RS (w : World) (p z q B : Nat) (t v u : Value) (ts : List Tp) (R : List RowL) (s : St) : Prop where
  r : Rs w p B s
  hp : p < q
  hz : z < p
  bz : L3 w z (.slice none 0 0) (.slice none 0 0) (.int .i64 0)
  bx : L3 w q t v u
  ot : OwnT w (q + 1) t ts
  ov : OwnR w (q + 1) v R
  dt : Dj v t
  rows : ∀ r ∈ R, OwnL w (q + 1) r.v r.l ∧ Dj v r.v
theorem RS.grow {w w' : World} {p z q B : Nat} {t v u : Value} {ts : List Tp} {R : List RowL} {s : St} (h : RS w p z q B t v u ts R s) (hb : Below w.heap.size w w') : RS w' p z q B t v u ts R s :=
  ⟨h.r.below hb h.r.r.hp, h.hp, h.hz, h.bz.below hb h.bz.hq, h.bx.below hb h.bx.hq, Own.below h.ot hb, Own.below h.ov hb, h.dt, fun r hr => ⟨Own.below (h.rows r hr).1 hb, (h.rows r hr).2⟩⟩
theorem RS.read {w w' : World} {p z q B : Nat} {t v u : Value} {ts : List Tp} {R : List RowL} {s s' : St} (h : RS w p z q B t v u ts R s) (hr : Rs w' p B s') (hg : w.grownBy w' (some p)) : RS w' p z q B t v u ts R s' := by
  have hp := h.hp
  have hz := h.hz
  exact ⟨hr, h.hp, h.hz, h.bz.grown hg (fun e => by injection e with e; omega), h.bx.grown hg (fun e => by injection e with e; omega), Own.grownP h.ot hg (by omega), Own.grownP h.ov hg (by omega), h.dt, fun r hr => ⟨Own.grownP (h.rows r hr).1 hg (by omega), (h.rows r hr).2⟩⟩
/-- another row -/
theorem RS.push {w w' : World} {p z q B : Nat} {t v v' u : Value} {ts : List Tp} {R : List RowL} {s : St} {r : RowL} (h : RS w p z q B t v u ts R s) (hr : OwnL w (q + 1) r.v r.l) (hd : Dj v r.v) (hv : OwnR w' (q + 1) v' (R ++ [r])) (hg : w.grownBy w' v.ownBlock) (hn : v'.ownBlock = v.ownBlock ∨ v'.ownBlock = some w.heap.size) :
    RS (w'.setCell ⟨q, 1, none⟩ v') p z q B t v' u ts (R ++ [r]) s := by
  have hp := h.hp
  have hz := h.hz
  have hlow : ∀ b, b ≤ q → some b ≠ v.ownBlock := fun b hb e => by have := (h.ov.row.lt b e.symm).1; omega
  have hb1 : Below (q + 1) w w' := (Below.refl _ _).grown hg h.bx.hq (fun k hk => (h.ov.row.lt k hk).1)
  have hb2 : Below q w' (w'.setCell ⟨q, 1, none⟩ v') := (Below.refl q w').setCell (p := ⟨q, 1, none⟩) (Nat.le_refl _) _
  have keepT : ∀ {α : Type} {e : TypeId} {sz : Nat} {f : α → List Value} {x : Value} {l : List α}, Own w (q + 1) e sz f x l → Dj v x → Own (w'.setCell ⟨q, 1, none⟩ v') (q + 1) e sz f x l := fun ho hd => Own.setBelow (Own.grown ho hg hd) (Nat.lt_succ_self q) _
  refine ⟨(h.r.below hb1 (by omega)).below hb2 hp, hp, hz, (h.bz.below hb1 (by omega)).below hb2 (by omega), (h.bx.below hb1 (by omega)).set1 _, keepT h.ot h.dt, Own.setBelow hv (Nat.lt_succ_self q) _, Dj.next h.ot h.dt hn, ?_⟩
  intro x hx
  rcases List.mem_append.1 hx with hx | hx
  · exact ⟨keepT (h.rows x hx).1 (h.rows x hx).2, Dj.next (h.rows x hx).1 (h.rows x hx).2 hn⟩
  · obtain rfl : x = r := by simpa using hx
    exact ⟨keepT hr hd, Dj.next hr hd hn⟩
theorem RS.cell1 {w w' : World} {p z q B : Nat} {t v u : Value} {ts : List Tp} {R : List RowL} {s : St} (h : RS w p z q B t v u ts R s) (hg : w.grownBy w' v.ownBlock) : w'.cell? ⟨q, 1, none⟩ = some v ∧ w'.frozen? ⟨q, 1, none⟩ = false := by
  have hb1 : Below (q + 1) w w' := (Below.refl _ _).grown hg h.bx.hq (fun k hk => (h.ov.row.lt k hk).1)
  have := h.bx.below hb1 (Nat.lt_succ_self q)
  exact ⟨this.c1, this.f1⟩
/-- the log's rows -/
structure RT (w : World) (q : Nat) (t v : Value) (ts : List Tp) (R : List RowL) : Prop where
  ot : OwnT w (q + 1) t ts
  ov : OwnR w (q + 1) v R
  rows : ∀ r ∈ R, OwnL w (q + 1) r.v r.l
theorem RS.rt {w : World} {p z q B : Nat} {t v u : Value} {ts : List Tp} {R : List RowL} {s : St} (h : RS w p z q B t v u ts R s) : RT w q t v ts R := ⟨h.ot, h.ov, fun r hr => (h.rows r hr).1⟩
theorem RT.setz {w : World} {q z : Nat} {t v : Value} {ts : List Tp} {R : List RowL} (h : RT w q t v ts R) (hz : z < q + 1) (k : Nat) (y : Value) : RT (w.setCell ⟨z, k, none⟩ y) q t v ts R :=
  ⟨Own.setBelow h.ot (p := ⟨z, k, none⟩) hz _, Own.setBelow h.ov (p := ⟨z, k, none⟩) hz _, fun r hr => Own.setBelow (h.rows r hr) (p := ⟨z, k, none⟩) hz _⟩
theorem RT.trs {w : World} {q n c : Nat} {A : Option Addr} {v : Value} {ts : List Tp} {R : List RowL} (h : RT w q (.slice A n c) v ts R) : Trs w w.heap.size A n ts ∧ n ≤ c := by
  obtain ⟨A', c', h1, h2, h3⟩ := Own.shape h.ot
  injection h1 with h1 h4 h5
  subst h1; subst h4; subst h5
  exact ⟨⟨h3, rfl⟩, h2⟩
theorem RT.lgs {w : World} {q n c : Nat} {A : Option Addr} {t : Value} {ts : List Tp} {R : List RowL} (h : RT w q t (.slice A n c) ts R) : Lgs w w.heap.size A n (R.map RowL.l) ∧ n ≤ c := by
  obtain ⟨A', c', h1, h2, h3⟩ := Own.shape h.ov
  injection h1 with h1 h4 h5
  subst h1; subst h4; subst h5
  refine ⟨⟨R, h3, rfl, fun r hr => ?_, rfl⟩, h2⟩
  obtain ⟨A2, c2, m1, m2, m3⟩ := Own.shape (h.rows r hr)
  injection m1 with m1 m4 m5
  rw [m1, m4, m5]
  exact ⟨m3, rfl, m2⟩
theorem rCs_yes {m : Nat} {s : St} (h : s.2 = false) : rCs (m + 1) s = ((rC s).1 :: (rCs m (rC s).2).1, (rCs m (rC s).2).2) := by
  show (if s.2 = true then _ else _) = _
  rw [h]; rfl
theorem rCs_no {m : Nat} {s : St} (h : s.2 = true) : rCs m s = ([], s) := by
  cases m with
  | zero => rfl
  | succ m => show (if s.2 = true then _ else _) = _; rw [h]; rfl
theorem Legs.info : (Try.prog.info? 97).map (fun i => (i.zero, i.size, i.bytes)) = some (some (.slice none 0 0), 1, 24) := by kernel_rfl
theorem Own.outside2 {α : Type} {w w' : World} {v x : Value} {b base : Nat} {e e' : TypeId} {sz sz' : Nat} {f : α → List Value} {l : List α} {β : Type} {f' : β → List Value} {l' : List β} (h : Own w base e sz f v l) (hx : Own w' b e' sz' f' x l') (hb : w.heap.size ≤ b) : Dj v x := fun k hk hu => by
  have h1 := (h.row.lt k hk).2
  have h2 := (hx.row.lt k hu).1
  omega
end Go.Proofs.Ytknmpfimnbenjaa
