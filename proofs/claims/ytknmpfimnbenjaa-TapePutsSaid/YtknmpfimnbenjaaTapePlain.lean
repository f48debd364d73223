/-
  Logs as bytes, plainly: what is written, and what is read.
-/
import Derived.Test.YtknmpfimnbenjaaPackBackP
namespace Go.Proofs.Ytknmpfimnbenjaa
open Go.RowKit HB PackP
set_option linter.unusedVariables false
set_option linter.unusedSimpArgs false
namespace TapeP
/-- a trip -/
structure Tp where
  (a b c d e f g : Int)
deriving Inhabited, DecidableEq
/-- a leg -/
structure Lg where
  (t p d : Int)
  o : Bool
deriving Inhabited, DecidableEq
/-- a log -/
structure Lo where
  ts : List Tp
  ls : List (List Lg)
  u : Int
deriving Inhabited
abbrev I64 (x : Int) : Prop := -9223372036854775808 ≤ x ∧ x ≤ 9223372036854775807
abbrev Tp.ns (t : Tp) : List Int := [t.a, t.b, t.c, t.d, t.e, t.f, t.g]
abbrev Lg.ns (g : Lg) : List Int := [g.t, g.p, g.d]
def Tp.ok (t : Tp) : Prop := ∀ x ∈ t.ns, I64 x
def Lg.ok (g : Lg) : Prop := ∀ x ∈ g.ns, I64 x
def dn (b : Bool) : Nat := if b then 1 else 0
def pT (t : Tp) : List Int := e1 t.ns
def pL (g : Lg) : List Int := e1 g.ns ++ put (dn g.o)
def pC (c : List Lg) : List Int := put c.length ++ c.flatMap pL
/-- a log's bytes, behind the mark -/
def pB (x : Lo) : List Int := put (fold x.u) ++ (put x.ts.length ++ (x.ts.flatMap pT ++ (put x.ls.length ++ x.ls.flatMap pC)))
structure Lo.ok (x : Lo) : Prop where
  u : I64 x.u
  ts : ∀ t ∈ x.ts, t.ok
  ls : ∀ c ∈ x.ls, ∀ g ∈ c, g.ok
/-! ### what is read -/
/-- what is left, and whether something was not there -/
abbrev St := List Int × Bool
def nx (s : St) : St := (nr s.1, nb s.1 s.2)
def gi (s : St) : Int := unfold (nv s.1)
def sm (s : St) (m : Int) : St := (sr s.1 m, sb s.1 m s.2)
def gs (s : St) (m : Int) : Nat := sv s.1 m
def nxs : Nat → St → St
  | 0, s => s
  | k + 1, s => nxs k (nx s)
def rT (s : St) : Tp := ⟨gi s, gi (nxs 1 s), gi (nxs 2 s), gi (nxs 3 s), gi (nxs 4 s), gi (nxs 5 s), gi (nxs 6 s)⟩
def rTs : Nat → St → List Tp × St
  | 0, s => ([], s)
  | k + 1, s => if s.2 then ([], s) else (rT s :: (rTs k (nxs 7 s)).1, (rTs k (nxs 7 s)).2)
def rL (s : St) : Lg := ⟨gi s, gi (nxs 1 s), gi (nxs 2 s), decide ((gs (nxs 3 s) 1 : Int) = 1)⟩
def nL (s : St) : St := sm (nxs 3 s) 1
def rLs : Nat → St → List Lg × St
  | 0, s => ([], s)
  | k + 1, s => if s.2 then ([], s) else (rL s :: (rLs k (nL s)).1, (rLs k (nL s)).2)
def lft (s : St) : Int := (s.1.length : Int)
def rC (s : St) : List Lg × St := rLs (gs s (lft s)) (sm s (lft s))
def rCs : Nat → St → List (List Lg) × St
  | 0, s => ([], s)
  | k + 1, s => if s.2 then ([], s) else ((rC s).1 :: (rCs k (rC s).2).1, (rCs k (rC s).2).2)
def sA (b : List Int) : St := nx (b, false)
def rA (b : List Int) : List Tp × St := rTs (gs (sA b) (lft (sA b))) (sm (sA b) (lft (sA b)))
def rB (b : List Int) : List (List Lg) × St := rCs (gs (rA b).2 (lft (rA b).2)) (sm (rA b).2 (lft (rA b).2))
def rLog (b : List Int) : Lo := ⟨(rA b).1, (rB b).1, gi (b, false)⟩
def fin (b : List Int) : St := (rB b).2
/-! ### forward -/
theorem fold_unfold {u : Nat} : fold (unfold u) = u := by
  unfold fold unfold
  split <;> split <;> omega
theorem int_put {x : Int} (h : I64 x) (t : List Int) (b : Bool) : nx (put (fold x) ++ t, b) = (t, b) ∧ gi (put (fold x) ++ t, b) = x := by
  obtain ⟨h1, h2, h3⟩ := read_put (fold_lt h.1 h.2) t b
  refine ⟨?_, ?_⟩
  · simp only [nx, h2, h3]
  · simp only [gi, h1, unfold_fold]
theorem small_put {v : Nat} {m : Int} (h : v < 18446744073709551616) (hm : (v : Int) ≤ m) (t : List Int) (b : Bool) : sm (put v ++ t, b) m = (t, b) ∧ gs (put v ++ t, b) m = v := by
  obtain ⟨h1, h2, h3⟩ := read_put h t b
  have hn : ¬ m < (v : Int) := by omega
  refine ⟨?_, ?_⟩
  · simp only [sm, sr, sb, h1, h2, h3, if_neg hn]
  · simp only [gs, sv, h1, if_neg hn]
theorem nxs_put : ∀ (l : List Int), (∀ x ∈ l, I64 x) → ∀ (t : List Int) (b : Bool), nxs l.length (e1 l ++ t, b) = (t, b)
  | [], _, t, b => rfl
  | x :: l, h, t, b => by
    have h1 := int_put (h x List.mem_cons_self) (e1 l ++ t) b
    show nxs l.length (nx (e1 (x :: l) ++ t, b)) = _
    have e : e1 (x :: l) ++ t = put (fold x) ++ (e1 l ++ t) := by simp [e1]
    rw [e, h1.1]
    exact nxs_put l (fun y hy => h y (List.mem_cons_of_mem _ hy)) t b
theorem gi_put (l : List Int) (h : ∀ x ∈ l, I64 x) (k : Nat) (x : Int) (hk : l[k]? = some x) (t : List Int) (b : Bool) : gi (nxs k (e1 l ++ t, b)) = x := by
  induction k generalizing l with
  | zero =>
    cases l with
    | nil => simp at hk
    | cons y l =>
      simp at hk; subst hk
      have e : e1 (y :: l) ++ t = put (fold y) ++ (e1 l ++ t) := by simp [e1]
      show gi (e1 (y :: l) ++ t, b) = y
      rw [e]; exact (int_put (h y List.mem_cons_self) _ b).2
  | succ k ih =>
    cases l with
    | nil => simp at hk
    | cons y l =>
      have e : e1 (y :: l) ++ t = put (fold y) ++ (e1 l ++ t) := by simp [e1]
      show gi (nxs k (nx (e1 (y :: l) ++ t, b))) = x
      rw [e, (int_put (h y List.mem_cons_self) _ b).1]
      exact ih l (fun z hz => h z (List.mem_cons_of_mem _ hz)) (by simpa using hk)
theorem trip_put {t : Tp} (h : t.ok) (r : List Int) (b : Bool) : rT (pT t ++ r, b) = t ∧ nxs 7 (pT t ++ r, b) = (r, b) := by
  refine ⟨?_, nxs_put t.ns h r b⟩
  obtain ⟨a, b', c, d, e, f, g⟩ := t
  simp only [rT, Tp.mk.injEq]
  exact ⟨gi_put _ h 0 a rfl r b, gi_put _ h 1 b' rfl r b, gi_put _ h 2 c rfl r b, gi_put _ h 3 d rfl r b, gi_put _ h 4 e rfl r b, gi_put _ h 5 f rfl r b, gi_put _ h 6 g rfl r b⟩
theorem trips_put : ∀ (ts : List Tp), (∀ t ∈ ts, t.ok) → ∀ r, rTs ts.length (ts.flatMap pT ++ r, false) = (ts, (r, false))
  | [], _, r => rfl
  | t :: ts, h, r => by
    have h1 := trip_put (h t List.mem_cons_self) (ts.flatMap pT ++ r) false
    have e : (t :: ts).flatMap pT ++ r = pT t ++ (ts.flatMap pT ++ r) := by simp
    have h2 := trips_put ts (fun y hy => h y (List.mem_cons_of_mem _ hy)) r
    show rTs (ts.length + 1) _ = _
    rw [e]
    simp only [rTs, Bool.false_eq_true, if_false]
    rw [h1.1, h1.2, h2]
theorem leg_put {g : Lg} (h : g.ok) (r : List Int) (b : Bool) : rL (pL g ++ r, b) = g ∧ nL (pL g ++ r, b) = (r, b) := by
  have hd : (dn g.o : Int) ≤ 1 := by unfold dn; split <;> omega
  have hd2 : dn g.o < 18446744073709551616 := by omega
  have e : pL g ++ r = e1 g.ns ++ (put (dn g.o) ++ r) := by simp [pL]
  have h3 : nxs 3 (pL g ++ r, b) = (put (dn g.o) ++ r, b) := by rw [e]; exact nxs_put g.ns h _ b
  have h4 := small_put hd2 hd r b
  refine ⟨?_, by rw [nL, h3]; exact h4.1⟩
  have h5 : decide ((gs (nxs 3 (pL g ++ r, b)) 1 : Int) = 1) = g.o := by
    rw [h3, h4.2]; cases g.o <;> rfl
  obtain ⟨t, p, d, o⟩ := g
  simp only [rL, Lg.mk.injEq]
  refine ⟨?_, ?_, ?_, h5⟩
  · rw [e]; exact gi_put _ h 0 t rfl _ b
  · rw [e]; exact gi_put _ h 1 p rfl _ b
  · rw [e]; exact gi_put _ h 2 d rfl _ b
theorem legs_put : ∀ (c : List Lg), (∀ g ∈ c, g.ok) → ∀ r, rLs c.length (c.flatMap pL ++ r, false) = (c, (r, false))
  | [], _, r => rfl
  | t :: ts, h, r => by
    have h1 := leg_put (h t List.mem_cons_self) (ts.flatMap pL ++ r) false
    have e : (t :: ts).flatMap pL ++ r = pL t ++ (ts.flatMap pL ++ r) := by simp
    have h2 := legs_put ts (fun y hy => h y (List.mem_cons_of_mem _ hy)) r
    show rLs (ts.length + 1) _ = _
    rw [e]
    simp only [rLs, Bool.false_eq_true, if_false]
    rw [h1.1, h1.2, h2]
theorem flat_long {α : Type} (f : α → List Int) (hf : ∀ x, 0 < (f x).length) : ∀ l : List α, l.length ≤ (l.flatMap f).length
  | [] => Nat.le_refl _
  | x :: l => by have := flat_long f hf l; have := hf x; simp only [List.flatMap_cons, List.length_append, List.length_cons]; omega
theorem pL_pos (g : Lg) : 0 < (pL g).length := by have := put_pos (dn g.o); simp only [pL, List.length_append]; omega
theorem pC_pos (c : List Lg) : 0 < (pC c).length := by have := put_pos c.length; simp only [pC, List.length_append]; omega
theorem pT_pos (t : Tp) : 0 < (pT t).length := by have := put_pos (fold t.a); simp only [pT, e1, List.flatMap_cons, List.length_append]; omega
theorem car_put {c : List Lg} (h : ∀ g ∈ c, g.ok) (hn : c.length ≤ 1000000) (r : List Int) : rC (pC c ++ r, false) = (c, (r, false)) := by
  have e : pC c ++ r = put c.length ++ (c.flatMap pL ++ r) := by simp [pC]
  have hl : (c.length : Int) ≤ lft (put c.length ++ (c.flatMap pL ++ r), false) := by
    have := flat_long pL pL_pos c
    simp only [lft, List.length_append]; omega
  have h1 := small_put (v := c.length) (by omega) hl (c.flatMap pL ++ r) false
  rw [e, rC, h1.1, h1.2]
  exact legs_put c h r
theorem cars_put : ∀ (ls : List (List Lg)), (∀ c ∈ ls, (∀ g ∈ c, g.ok) ∧ c.length ≤ 1000000) → ∀ r, rCs ls.length (ls.flatMap pC ++ r, false) = (ls, (r, false))
  | [], _, r => rfl
  | t :: ts, h, r => by
    have h0 := h t List.mem_cons_self
    have h1 := car_put h0.1 h0.2 (ts.flatMap pC ++ r)
    have e : (t :: ts).flatMap pC ++ r = pC t ++ (ts.flatMap pC ++ r) := by simp
    have h2 := cars_put ts (fun y hy => h y (List.mem_cons_of_mem _ hy)) r
    show rCs (ts.length + 1) _ = _
    rw [e]
    simp only [rCs, Bool.false_eq_true, if_false]
    rw [h1, h2]
/-- what was written is read as it was -/
theorem log_put {x : Lo} (h : x.ok) (h1 : x.ts.length ≤ 1000000) (h2 : x.ls.length ≤ 1000000) (h3 : ∀ c ∈ x.ls, c.length ≤ 1000000) : rLog (pB x) = x ∧ fin (pB x) = ([], false) := by
  have a1 := int_put h.u (put x.ts.length ++ (x.ts.flatMap pT ++ (put x.ls.length ++ x.ls.flatMap pC))) false
  have eA : sA (pB x) = (put x.ts.length ++ (x.ts.flatMap pT ++ (put x.ls.length ++ x.ls.flatMap pC)), false) := a1.1
  have hl : (x.ts.length : Int) ≤ lft (sA (pB x)) := by
    have := flat_long pT pT_pos x.ts
    rw [eA]; simp only [lft, List.length_append]; omega
  rw [eA] at hl
  have a2 := small_put (v := x.ts.length) (by omega) hl (x.ts.flatMap pT ++ (put x.ls.length ++ x.ls.flatMap pC)) false
  have eB : rA (pB x) = (x.ts, (put x.ls.length ++ x.ls.flatMap pC, false)) := by
    rw [rA, eA, a2.1, a2.2]; exact trips_put x.ts h.ts _
  have hl2 : (x.ls.length : Int) ≤ lft (put x.ls.length ++ x.ls.flatMap pC, false) := by
    have := flat_long pC pC_pos x.ls
    simp only [lft, List.length_append]; omega
  have a3 := small_put (v := x.ls.length) (by omega) hl2 (x.ls.flatMap pC) false
  have eC : rB (pB x) = (x.ls, ([], false)) := by
    rw [rB, eB]
    simp only
    rw [a3.1, a3.2]
    have := cars_put x.ls (fun c hc => ⟨h.ls c hc, h3 c hc⟩) []
    simpa using this
  refine ⟨?_, by rw [fin, eC]⟩
  rw [rLog, eB, eC]
  simp only
  rw [show gi (pB x, false) = x.u from a1.2]
/-! ### back -/
abbrev In (l : List Int) : Prop := ∀ x ∈ l, 0 ≤ x ∧ x < 256
theorem In.nx {s : St} (h : In s.1) : In (nx s).1 := fun x hx => h x (nr_sub hx)
theorem In.nxs : ∀ (k : Nat) {s : St}, In s.1 → In (nxs k s).1
  | 0, _, h => h
  | k + 1, s, h => In.nxs k (In.nx h)
theorem nb_true (l : List Int) : nb l true = true := by unfold nb; split <;> rfl
theorem nx_back {s : St} (hi : In s.1) (h : (nx s).2 = false) : s.2 = false ∧ s.1 = put (fold (gi s)) ++ (nx s).1 := by
  obtain ⟨l, b⟩ := s
  simp only [nx, gi] at h ⊢
  cases hn : num l with
  | none => rw [(nv_none hn b).2.2] at h; cases h
  | some vk =>
    obtain ⟨v, k⟩ := vk
    obtain ⟨h1, h2, h3⟩ := nv_some hn b
    rw [h3] at h
    refine ⟨h, ?_⟩
    obtain ⟨q1, q2, t, q3⟩ := num_is hi hn
    have q3' : l = put v ++ t := q3
    have q4 : l.drop (put v).length = t := by rw [q3']; exact List.drop_left
    rw [h1, h2, fold_unfold, q2, q4]; exact q3'
theorem sm_back {s : St} {m : Int} (hi : In s.1) (h : (sm s m).2 = false) : s.2 = false ∧ (gs s m : Int) ≤ m ∧ s.1 = put (gs s m) ++ (sm s m).1 := by
  obtain ⟨l, b⟩ := s
  simp only [sm, gs, sb, sr, sv] at h ⊢
  split at h
  · cases h
  · rename_i hm
    have h2 := nx_back (s := (l, b)) hi h
    refine ⟨h2.1, by rw [if_neg hm]; omega, ?_⟩
    rw [if_neg hm, if_neg hm]
    have := h2.2
    simp only [nx, gi, fold_unfold] at this
    exact this
theorem In.sm {s : St} {m : Int} (h : In s.1) : In (sm s m).1 := fun x hx => by
  simp only [TapeP.sm, sr] at hx
  split at hx
  · simp at hx
  · exact h x (nr_sub hx)
theorem nxs_add : ∀ (j k : Nat) (s : St), nxs k (nxs j s) = nxs (j + k) s
  | 0, k, s => by rw [Nat.zero_add]; rfl
  | j + 1, k, s => by rw [show j + 1 + k = (j + k) + 1 by omega]; exact nxs_add j k (nx s)
theorem nxs_bad : ∀ (k : Nat) {s : St}, In s.1 → (nxs k s).2 = false → s.2 = false
  | 0, _, _, h => h
  | k + 1, s, hi, h => (nx_back hi (nxs_bad k (In.nx hi) h)).1
def gis : Nat → St → List Int
  | 0, _ => []
  | k + 1, s => gi s :: gis k (nx s)
theorem nxs_back : ∀ (k : Nat) {s : St}, In s.1 → (nxs k s).2 = false → s.1 = e1 (gis k s) ++ (nxs k s).1
  | 0, _, _, _ => rfl
  | k + 1, s, hi, h => by
    have h1 := nx_back hi (nxs_bad k (In.nx hi) h)
    have h2 := nxs_back k (In.nx hi) h
    show s.1 = e1 (gi s :: gis k (nx s)) ++ (nxs k (nx s)).1
    have e : e1 (gi s :: gis k (nx s)) = put (fold (gi s)) ++ e1 (gis k (nx s)) := by simp [e1]
    rw [e, List.append_assoc, ← h2]; exact h1.2
theorem gi_in {s : St} (hi : In s.1) : I64 (gi s) := unfold_in (nv_lt hi)
theorem trip_back {s : St} (hi : In s.1) (h : (nxs 7 s).2 = false) : s.1 = pT (rT s) ++ (nxs 7 s).1 := nxs_back 7 hi h
theorem rT_ok {s : St} (hi : In s.1) : (rT s).ok := by
  intro x hx
  simp only [Tp.ns, rT, List.mem_cons, List.not_mem_nil, or_false] at hx
  rcases hx with rfl | rfl | rfl | rfl | rfl | rfl | rfl
  · exact gi_in hi
  all_goals exact gi_in (In.nxs _ hi)
theorem In.trips : ∀ (k : Nat) {s : St}, In s.1 → In (rTs k s).2.1
  | 0, _, h => h
  | k + 1, s, h => by
    unfold rTs
    split
    · exact h
    · exact In.trips k (In.nxs 7 h)
theorem trips_ok : ∀ (k : Nat) {s : St}, In s.1 → ∀ t ∈ (rTs k s).1, t.ok
  | 0, _, _ => by simp [rTs]
  | k + 1, s, h => by
    unfold rTs
    split
    · simp
    · intro t ht
      rcases List.mem_cons.1 ht with rfl | ht
      · exact rT_ok h
      · exact trips_ok k (In.nxs 7 h) t ht
theorem trips_back : ∀ (k : Nat) {s : St}, In s.1 → (rTs k s).2.2 = false → s.2 = false ∧ (rTs k s).1.length = k ∧ s.1 = (rTs k s).1.flatMap pT ++ (rTs k s).2.1
  | 0, s, hi, h => ⟨h, rfl, rfl⟩
  | k + 1, s, hi, h => by
    unfold rTs at h ⊢
    split at h
    · rename_i hb; simp only at h; rw [hb] at h; cases h
    · rename_i hb
      rw [if_neg hb]
      obtain ⟨h1, h2, h3⟩ := trips_back k (In.nxs 7 hi) h
      have h4 := trip_back hi h1
      refine ⟨by simpa using hb, by simp [h2], ?_⟩
      simp only [List.flatMap_cons, List.append_assoc]
      rw [← h3]; exact h4
theorem dn_dec {v : Nat} (h : (v : Int) ≤ 1) : dn (decide ((v : Int) = 1)) = v := by
  rcases (show v = 0 ∨ v = 1 by omega) with h | h <;> subst h <;> rfl
theorem leg_back {s : St} (hi : In s.1) (h : (nL s).2 = false) : s.2 = false ∧ s.1 = pL (rL s) ++ (nL s).1 := by
  obtain ⟨h1, h2, h3⟩ := sm_back (s := nxs 3 s) (m := 1) (In.nxs 3 hi) h
  refine ⟨nxs_bad 3 hi h1, ?_⟩
  have h4 := nxs_back 3 hi h1
  have h5 : dn (rL s).o = gs (nxs 3 s) 1 := dn_dec h2
  rw [pL, h5, List.append_assoc]
  show s.1 = e1 (gis 3 s) ++ (put (gs (nxs 3 s) 1) ++ (sm (nxs 3 s) 1).1)
  rw [← h3]; exact h4
theorem In.leg {s : St} (h : In s.1) : In (nL s).1 := In.sm (In.nxs 3 h)
theorem rL_ok {s : St} (hi : In s.1) : (rL s).ok := by
  intro x hx
  simp only [Lg.ns, rL, List.mem_cons, List.not_mem_nil, or_false] at hx
  rcases hx with rfl | rfl | rfl
  · exact gi_in hi
  all_goals exact gi_in (In.nxs _ hi)
theorem In.legs : ∀ (k : Nat) {s : St}, In s.1 → In (rLs k s).2.1
  | 0, _, h => h
  | k + 1, s, h => by
    unfold rLs
    split
    · exact h
    · exact In.legs k (In.leg h)
theorem legs_ok : ∀ (k : Nat) {s : St}, In s.1 → ∀ t ∈ (rLs k s).1, t.ok
  | 0, _, _ => by simp [rLs]
  | k + 1, s, h => by
    unfold rLs
    split
    · simp
    · intro t ht
      rcases List.mem_cons.1 ht with rfl | ht
      · exact rL_ok h
      · exact legs_ok k (In.leg h) t ht
theorem legs_len : ∀ (k : Nat) (s : St), (rLs k s).1.length ≤ k
  | 0, _ => Nat.le_refl _
  | k + 1, s => by
    unfold rLs
    split
    · simp
    · have := legs_len k (nL s); simp only [List.length_cons]; omega
theorem trips_len : ∀ (k : Nat) (s : St), (rTs k s).1.length ≤ k
  | 0, _ => Nat.le_refl _
  | k + 1, s => by
    unfold rTs
    split
    · simp
    · have := trips_len k (nxs 7 s); simp only [List.length_cons]; omega
theorem legs_back : ∀ (k : Nat) {s : St}, In s.1 → (rLs k s).2.2 = false → s.2 = false ∧ (rLs k s).1.length = k ∧ s.1 = (rLs k s).1.flatMap pL ++ (rLs k s).2.1
  | 0, s, hi, h => ⟨h, rfl, rfl⟩
  | k + 1, s, hi, h => by
    unfold rLs at h ⊢
    split at h
    · rename_i hb; simp only at h; rw [hb] at h; cases h
    · rename_i hb
      rw [if_neg hb]
      obtain ⟨h1, h2, h3⟩ := legs_back k (In.leg hi) h
      have h4 := leg_back hi h1
      refine ⟨by simpa using hb, by simp [h2], ?_⟩
      simp only [List.flatMap_cons, List.append_assoc]
      rw [← h3]; exact h4.2
theorem In.car {s : St} (h : In s.1) : In (rC s).2.1 := In.legs _ (In.sm h)
theorem car_back {s : St} (hi : In s.1) (h : (rC s).2.2 = false) : s.2 = false ∧ s.1 = pC (rC s).1 ++ (rC s).2.1 := by
  obtain ⟨h1, h2, h3⟩ := legs_back _ (In.sm hi) h
  obtain ⟨h4, h5, h6⟩ := sm_back hi h1
  refine ⟨h4, ?_⟩
  rw [pC, show (rC s).1.length = gs s (lft s) from h2, List.append_assoc]
  rw [show (rC s).1.flatMap pL ++ (rC s).2.1 = (sm s (lft s)).1 from h3.symm]
  exact h6
theorem In.cars : ∀ (k : Nat) {s : St}, In s.1 → In (rCs k s).2.1
  | 0, _, h => h
  | k + 1, s, h => by
    unfold rCs
    split
    · exact h
    · exact In.cars k (In.car h)
theorem cars_back : ∀ (k : Nat) {s : St}, In s.1 → (rCs k s).2.2 = false → s.2 = false ∧ (rCs k s).1.length = k ∧ s.1 = (rCs k s).1.flatMap pC ++ (rCs k s).2.1
  | 0, s, hi, h => ⟨h, rfl, rfl⟩
  | k + 1, s, hi, h => by
    unfold rCs at h ⊢
    split at h
    · rename_i hb; simp only at h; rw [hb] at h; cases h
    · rename_i hb
      rw [if_neg hb]
      obtain ⟨h1, h2, h3⟩ := cars_back k (In.car hi) h
      have h4 := car_back hi h1
      refine ⟨by simpa using hb, by simp [h2], ?_⟩
      simp only [List.flatMap_cons, List.append_assoc]
      rw [← h3]; exact h4.2
theorem cars_ok : ∀ (k : Nat) {s : St}, In s.1 → ∀ c ∈ (rCs k s).1, ∀ g ∈ c, g.ok
  | 0, _, _ => by simp [rCs]
  | k + 1, s, h => by
    unfold rCs
    split
    · simp
    · intro t ht
      rcases List.mem_cons.1 ht with rfl | ht
      · exact legs_ok _ (In.sm h)
      · exact cars_ok k (In.car h) t ht
/-- what is read without a fault is written so -/
theorem log_back {b : List Int} (hi : In b) (h1 : (fin b).2 = false) (h2 : (fin b).1 = []) : pB (rLog b) = b ∧ (rLog b).ok := by
  have iA : In (sA b).1 := In.nx (s := (b, false)) hi
  have iB : In (rA b).2.1 := In.trips _ (In.sm iA)
  obtain ⟨q1, q2, q3⟩ := cars_back _ (In.sm iB) h1
  obtain ⟨q4, q5, q6⟩ := sm_back iB q1
  obtain ⟨q7, q8, q9⟩ := trips_back _ (In.sm iA) q4
  obtain ⟨q10, q11, q12⟩ := sm_back iA q7
  obtain ⟨q13, q14⟩ := nx_back (s := (b, false)) hi q10
  refine ⟨?_, ⟨gi_in hi, trips_ok _ (In.sm iA), cars_ok _ (In.sm iB)⟩⟩
  have e1' : (rB b).1.flatMap pC = (sm (rA b).2 (lft (rA b).2)).1 := by
    have : (rCs (gs (rA b).2 (lft (rA b).2)) (sm (rA b).2 (lft (rA b).2))).2.1 = [] := h2
    rw [this, List.append_nil] at q3
    exact q3.symm
  unfold pB rLog
  simp only
  rw [e1', show (rB b).1.length = gs (rA b).2 (lft (rA b).2) from q2, ← q6, show (rA b).1.length = gs (sA b) (lft (sA b)) from q8]
  rw [show (rA b).1.flatMap pT ++ (rA b).2.1 = (sm (sA b) (lft (sA b))).1 from q9.symm, ← q12]
  exact q14.symm
end TapeP
end Go.Proofs.Ytknmpfimnbenjaa
