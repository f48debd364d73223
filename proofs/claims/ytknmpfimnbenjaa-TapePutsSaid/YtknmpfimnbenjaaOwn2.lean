/-
  Several rows of the call's own side by side: one is appended to, the others stay.
-/
import Derived.Test.YtknmpfimnbenjaaOwn
import Derived.Maps.AppendAt
namespace Go.Proofs.Ytknmpfimnbenjaa.HB
open Go.RowKit
/-- two slices of the call's own that share no block -/
def Dj (v u : Value) : Prop := ∀ k, v.ownBlock = some k → u.ownBlock ≠ some k
theorem Dj.symm {v u : Value} (h : Dj v u) : Dj u v := fun k hk hv => h k hv hk
theorem Dj.nil (u : Value) (n c : Nat) : Dj (.slice none n c) u := fun k hk => by simp [Value.ownBlock] at hk
section
variable {α : Type} {w w' : World} {base base' : Nat} {e : TypeId} {sz : Nat} {f : α → List Value} {v u : Value} {l : List α}
/-- another row stays -/
theorem Own.grown (h : Own w base e sz f u l) (hg : w.grownBy w' v.ownBlock) (hd : Dj v u) : Own w' base e sz f u l :=
  World.ownsRow.kept h hg (by
    cases hu : u.ownBlock with
    | none => exact .inl rfl
    | some k => exact .inr (fun he => hd k he.symm hu))
theorem Dj.next (h : Own w base e sz f u l) (hd : Dj v u) {v' : Value} (hv : v'.ownBlock = v.ownBlock ∨ v'.ownBlock = some w.heap.size) : Dj v' u := by
  rcases hv with hv | hv
  · intro k hk; exact hd k (hv ▸ hk)
  · intro k hk hu
    rw [hv] at hk
    have := (h.row.lt k hu).2
    injection hk with hk
    omega
end
section
variable {P : Program} {α : Type} {w : World} {base : Nat} {e : TypeId} {sz : Nat} {f : α → List Value} {v : Value} {l : List α}
/-- 'out = append(out, x)', and what becomes of other rows. -/
theorem push2 {ops : Array Oper} {rest : List Oper} {o : Oper} {a : Act} {Q : Exit → Act → World → Prop} (hgd : o.guard = none) (s x : Operand) (t : TypeId)
    (ho : o.op = .call { callee := .builtin .append, args := #[s, x], argTypes := #[t, t] })
    {z : Value} {bytes : Nat} (ht : P.underlying t = some (.slice e)) (hinfo : (P.info? e).map (fun i => (i.zero, i.size, i.bytes)) = some (some z, sz, bytes)) (hzs : z.cells.size = sz) (hsz : 0 < sz) (hby : bytes ≤ 1000)
    (hs : a.eval s = v) (hown : Own w base e sz f v l) (y : α) (ad : Addr) (c : Nat) (hx : a.eval x = .slice (some ad) 1 c) (hl : (f y).length = sz)
    (hc : ∀ j u, (f y)[j]? = some u → w.cell? (ad.add j) = some u) (h1 : ∀ u ∈ f y, u.oneCell' = true)
    (hn : l.length ≤ 1000000000) (hbase : base ≤ w.heap.size)
    (h : ∀ v' w', Own w' base e sz f v' (l ++ [y]) → Below base w w' → w.grownBy w' v.ownBlock → (v'.ownBlock = v.ownBlock ∨ v'.ownBlock = some w.heap.size) → wpList P ops Q rest (a.put o.dst v') w') : wpList P ops Q (o :: rest) a w := by
  obtain ⟨i, hi, hz, hzz, hbb⟩ := info_parts hinfo
  refine wpList_append_own_at w hgd s x t ho base e i z sz bytes ht hi hz hzz hbb hzs hsz v l.length (l.flatMap f) hs hown.row ad 1 c (f y) hx (by rw [hl, Nat.one_mul]) hc h1 (by simp only [maxLen]; omega)
    (Nat.le_trans (Nat.mul_le_mul_left _ hby) (by omega)) hbase (fun v' w' k1 k2 _ k3 => h v' w' ?_ ((Below.refl base w).grown k2 hbase (fun k hk => (hown.row.lt k hk).1)) k2 k3)
  show w'.ownsRow base e sz v' (l ++ [y]).length ((l ++ [y]).flatMap f)
  simpa using k1
end
end Go.Proofs.Ytknmpfimnbenjaa.HB
