/-
  Base of this seat's proofs: the frame of a law (whatever the input, true, and nothing that was there is turned), a slice that reads as a list ('Rd'), how an argument is opened to it, rows of the call's own, small laws.
-/
import Derived.WalkKit
import Derived.WalkSpells
import Derived.WalkLawsBesides
import Derived.ProofKit
import Derived.OpenShut
import Derived.ChangeOld
import Derived.Deep.Slices
import Derived.Deep.Fields
import Derived.Deep.QuietTactic
import Derived.BigQuiet
import Derived.KernelRfl
import Derived.Handy
import Derived.Deep.RegionHeld3
import Derived.Deep.DrawnRows
namespace Go.Proofs.Ytknmpfimnbenjaa.HB
open Go.ChangeShapes Go.WideShapes Go.ChangeAt Go.RowKit

/-- A fact kept from the walk. -/
theorem hide {p : Prop} (h : p) : Hid p := h

/-- Results that are equal. -/
theorem ret_bool {a b : Bool} (h : a = b) : Ending.returned (.bool a) = .returned (.bool b) := by rw [h]
theorem ret_int {k : IntKind} {a b : Int} (h : a = b) : Ending.returned (.int k a) = .returned (.int k b) := by rw [h]

/-- The world gets a name of its own: of it only what is listed is known. -/
theorem letter {Q : World → Prop} {w W : World} (S : World → Prop) (hS : S W) (hb : Below w.heap.size w W) (hsz : w.heap.size < W.heap.size)
    (h : ∀ W' : World, S W' → Below w.heap.size w W' → w.heap.size < W'.heap.size → Q W') : Q W := h W hS hb hsz
/-- All old cells, all old marks read as before. -/
theorem bcell {B : Nat} {W w1 : World} (hb : Below B W w1) : (∀ b o, b < B → w1.cell? ⟨b, o, none⟩ = W.cell? ⟨b, o, none⟩) ∧ (∀ b o, b < B → w1.frozen? ⟨b, o, none⟩ = W.frozen? ⟨b, o, none⟩) :=
  ⟨fun b o h => hb.cell (p := ⟨b, o, none⟩) h, fun b o h => hb.frozen (p := ⟨b, o, none⟩) h⟩

theorem szb {B k : Nat} {W w1 : World} (hb : Below B W w1) (h : k < W.heap.size) : k < w1.heap.size := Nat.lt_of_lt_of_le h hb.size

theorem then_ {B : Nat} {a b c : World} (h : Below B a b) (k : Below b.heap.size b c) (hB : B ≤ a.heap.size) : Below B a c := h.trans (k.mono (Nat.le_trans hB h.size))

/-- An old block lies below the new ones, in the forms in which the walk asks. -/
theorem sizes {b a : Nat} (h : b < a) : b < a ∧ b ≤ a ∧ b < a + 1 ∧ b ≤ a + 1 ∧ b < a + 2 ∧ b ≤ a + 2 ∧ b < a + 3 ∧ b ≤ a + 3 ∧ b < a + 4 ∧ b ≤ a + 4 ∧ b < a + 1 + 1 ∧ b < a + 1 + 1 + 1 ∧ b < a + 1 + 1 + 1 + 1 := by omega
theorem holdf {W w1 : World} {p : Addr} (hb : Below W.heap.size W w1) (hp : p.block < W.heap.size) (h : W.frozen? p = false) : w1.frozen? p = false := (hb.frozen hp).trans h
theorem set_same {W : World} {p : Addr} {u : Value} (h : W.cell? p = some u) (v : Value) : (W.setCell p v).cell? p = some v := World.cell?_setCell_same W p v h
theorem set_same2 {W : World} {p : Addr} {u : Value} (q : Addr) (hne : p ≠ q) (h : W.cell? p = some u) (v v' : Value) : ((W.setCell q v').setCell p v).cell? p = some v :=
  set_same ((World.cell?_setCell_other W q p v' (Ne.symm hne)).trans h) v
theorem below_drewN {B : Nat} {a w : World} (h : Below B a w) (n : Nat) : Below B a (w.drewN n) := ⟨h.os, h.tape, h.output, h.size, h.block⟩
theorem hold1 {W w1 : World} {p : Addr} {v : Value} (hb : Below W.heap.size W w1) (h : W.cell? p = some v) : w1.cell? p = some v := (hb.cell (World.block_lt_of_cell? W p h)).trans h

/-! ### min and max, in Lean's own words -/
section
variable {P : Program} (w : World)
theorem min2_eq (k k' : IntKind) (x y : Int) : (Builtin.min2 (.int k x) (.int k' y) : Sem Value) = pure (.int k (min x y)) := by
  have e : (if y < x then y else x) = min x y := by rw [Int.min_def]; split <;> split <;> omega
  simp [Builtin.min2, e]
theorem max2_eq (k k' : IntKind) (x y : Int) : (Builtin.max2 (.int k x) (.int k' y) : Sem Value) = pure (.int k (max x y)) := by
  have e : (if x < y then y else x) = max x y := by rw [Int.max_def]; split <;> split <;> omega
  simp [Builtin.max2, e]
@[go_sem high] theorem run_min2 (ts : Array TypeId) (t : TypeId) (k k' : IntKind) (x y : Int) : (Builtin.min_ ts t #[.int k x, .int k' y]).run P w = .ok (.int k (min x y)) w := by
  simp [Builtin.min_, min2_eq]
@[go_sem high] theorem run_max2 (ts : Array TypeId) (t : TypeId) (k k' : IntKind) (x y : Int) : (Builtin.max_ ts t #[.int k x, .int k' y]).run P w = .ok (.int k (max x y)) w := by
  simp [Builtin.max_, max2_eq]
@[go_sem high] theorem run_min4 (ts : Array TypeId) (t : TypeId) (k k1 k2 k3 : IntKind) (x y z u : Int) : (Builtin.min_ ts t #[.int k x, .int k1 y, .int k2 z, .int k3 u]).run P w = .ok (.int k (min (min (min x y) z) u)) w := by
  simp [Builtin.min_, min2_eq]
@[go_sem high] theorem run_max4 (ts : Array TypeId) (t : TypeId) (k k1 k2 k3 : IntKind) (x y z u : Int) : (Builtin.max_ ts t #[.int k x, .int k1 y, .int k2 z, .int k3 u]).run P w = .ok (.int k (max (max (max x y) z) u)) w := by
  simp [Builtin.max_, max2_eq]
end

/-! ### The frame of a law -/
section
variable {H : Type} {enc : TypeId × Value → H} {P : Program} {W W' : World}
theorem trodAll_below (hl : laidOutB P = true) (hb : Below W.heap.size W W') :
    ∀ {ts : List TypeId} {vs : List Value} {ds : List (DataW H)} {ps : List MemPlace}, (∀ t ∈ ts, P.readableRec t = true ∧ t < P.types.size) →
      DataW.TrodAll enc P W 0 (fun _ => true) true ts vs ds ps → DataW.TrodAll enc P W' 0 (fun b => decide (b < W.heap.size)) true ts vs ds ps
  | [], [], [], _, _, h => h
  | t :: ts, v :: vs, d :: ds, _, ht, ⟨p, q, h1, h2, e⟩ => by
    have k := ht t (List.mem_cons_self ..)
    refine ⟨p, q, Below.trod hl k.1 k.2 h1 hb ?_, trodAll_below hl hb (fun t' h' => ht t' (List.mem_cons_of_mem _ h')) h2, e⟩
    obtain ⟨m, hm⟩ := h1
    exact DataW.trod_lt m _ _ _ hm
  | [], _ :: _, _, _, _, h => by cases h
  | [], [], _ :: _, _, _, h => by cases h
  | _ :: _, [], _, _, _, h => by cases h
  | _ :: _, _ :: _, [], _, _, h => by cases h

theorem law_lifted {C : Checked} {os : Os} {F : FuncId} {fn : Func} {s : ChangeSpec} {tb : TypeId}
    (own : ownKnob C.prog.godebug = none) (started : os.Started) (noInit : C.prog.inits.idxOf? F = none) (hfn : C.prog.funcs[F]? = some fn)
    (witness : ∃ (w : World) (tape : Tape) (i : Input), w.os = os ∧ (w.forCall tape i).Shaped C.prog ∧ i.vars = [] ∧ Input.okWide C.prog (w.forCall tape i) .any w.heap.size F i ∧
      s.pre6 enc C.prog fn [] false (w.forCall tape i).memory i.args ∧ ({} : Assume).holds C.prog (lone (Frame.enter C.prog F i.args .normal) [] (w.forCall tape i)))
    (laid : laidOutB C.prog = true) (hrd : ∀ t ∈ fn.params.toList, C.prog.readableRec t = true ∧ t < C.prog.types.size)
    (hres : fn.resultTypes = #[tb]) (hb : C.prog.underlying tb = some .bool) (hvars : s.vars = [])
    (hs : ∀ ds : List (DataW H), ds.length = fn.params.size → s.fn H ds = { results := [.lit (.bool true)], args := ds })
    (walk : ∀ (W : World) (base : Nat) (args : Array Value) (ds : List (DataW H)) (p : List MemPlace),
      (∀ (j : Nat) t v, fn.params[j]? = some t → args[j]? = some v → Value.okWide C.prog W .any base t v) →
      DataW.TrodAll enc C.prog W 0 (fun _ => true) true fn.params.toList args.toList ds p →
      Calls C.prog F args W fun e W' => e = .returned (.bool true) ∧ Below W.heap.size W W') :
    ReturnsInHanded {} C os F .any (s.pre6 enc C.prog fn [] false) (s.post enc C.prog fn false true false false) := by
  refine returnsInHanded_of_change own started noInit hfn witness ?_
  intro W base args ds gs before hval hW _ _
  have hW' := hW
  obtain ⟨p, q, hA, hV, rfl, hfz, hnd⟩ := hW
  have hgs : gs = [] ∧ q = [] := by
    rw [hvars] at hV
    cases gs with
    | nil => exact ⟨rfl, hV⟩
    | cons _ _ => exact hV.elim
  obtain ⟨rfl, rfl⟩ := hgs
  have hlen : ds.length = fn.params.size := by
    have : ∀ {ts : List TypeId} {vs : List Value} {ds : List (DataW H)} {ps : List MemPlace}, DataW.TrodAll enc C.prog W 0 (fun _ => true) true ts vs ds ps → ds.length = ts.length := by
      intro ts
      induction ts with
      | nil => intro vs ds ps h; cases vs <;> cases ds <;> first | rfl | cases h
      | cons t ts ih =>
        intro vs ds ps h
        cases vs with
        | nil => cases h
        | cons v vs =>
          cases ds with
          | nil => cases h
          | cons d ds =>
            obtain ⟨_, _, _, h2, _⟩ := h
            simp [ih h2]
    simpa using this hA
  refine (walk W base args ds p hval hA).mono fun e W' ⟨he, bel⟩ => ?_
  subst he
  have hfs : s.fn H (ds ++ []) = { results := [.lit (.bool true)], args := ds } := by rw [List.append_nil]; exact hs ds hlen
  refine ⟨_, rfl, ds, [], p ++ [], [], p, [], hW', ?_, ?_, ?_, ?_, fun h => by cases h⟩
  · rw [hfs, hres]; exact trodAll_mk1 (shut_bool hb _)
  · rw [hfs]; exact trodAll_below laid bel hrd hA
  · rw [hfs, hvars]; rfl
  · exact bel.frame _
end

/-! ### Lists of cells -/
theorem flat_length {α : Type} {f : α → List Value} {m : Nat} (hf : ∀ x, (f x).length = m) : ∀ l : List α, (l.flatMap f).length = l.length * m
  | [] => by simp
  | x :: l => by rw [List.flatMap_cons, List.length_append, hf, flat_length hf l, List.length_cons, Nat.succ_mul, Nat.add_comm]
theorem flat_get {α : Type} {f : α → List Value} {m : Nat} (hf : ∀ x, (f x).length = m) : ∀ (l : List α) (i j : Nat) (x : α), l[i]? = some x → j < m → (l.flatMap f)[i * m + j]? = (f x)[j]?
  | [], i, j, x, h, _ => by simp at h
  | y :: l, 0, j, x, h, hj => by
    simp only [List.getElem?_cons_zero, Option.some.injEq] at h
    subst h
    rw [List.flatMap_cons, Nat.zero_mul, Nat.zero_add, List.getElem?_append_left (by rw [hf]; exact hj)]
  | y :: l, i + 1, j, x, h, hj => by
    rw [List.getElem?_cons_succ] at h
    rw [List.flatMap_cons, List.getElem?_append_right (by rw [hf, Nat.succ_mul]; omega), hf, show (i + 1) * m + j - m = i * m + j from by rw [Nat.succ_mul]; omega]
    exact flat_get hf l i j x h hj
theorem flat_split {α : Type} {f : α → List Value} {m : Nat} (hf : ∀ x, (f x).length = m) (l : List α) (q : Nat) (u : Value) (h : (l.flatMap f)[q]? = some u) : ∃ i j x, q = i * m + j ∧ j < m ∧ l[i]? = some x ∧ (f x)[j]? = some u := by
  have hq : q < l.length * m := by rw [← flat_length hf]; exact (List.getElem?_eq_some_iff.1 h).1
  have hm : 0 < m := by
    rcases Nat.eq_zero_or_pos m with h0 | h0
    · subst h0; simp at hq
    · exact h0
  have hi : q / m < l.length := (Nat.div_lt_iff_lt_mul hm).2 hq
  have e : q = q / m * m + q % m := by rw [Nat.mul_comm]; exact (Nat.div_add_mod q m).symm
  refine ⟨q / m, q % m, l[q / m], e, Nat.mod_lt _ hm, List.getElem?_eq_getElem hi, ?_⟩
  rw [← flat_get hf l _ _ _ (List.getElem?_eq_getElem hi) (Nat.mod_lt q hm), ← e]
  exact h

theorem flat_take {α : Type} {f : α → List Value} {m : Nat} (hf : ∀ x, (f x).length = m) : ∀ (l : List α) (k : Nat), (l.flatMap f).take (k * m) = (l.take k).flatMap f
  | [], k => by simp
  | x :: l, 0 => by simp
  | x :: l, k + 1 => by
    rw [List.flatMap_cons, List.take_succ_cons, List.flatMap_cons, ← flat_take hf l k, List.take_append, hf, List.take_of_length_le (by rw [hf, Nat.succ_mul]; omega), show (k + 1) * m - m = k * m from by rw [Nat.succ_mul]; omega]
theorem flat_drop {α : Type} {f : α → List Value} {m : Nat} (hf : ∀ x, (f x).length = m) : ∀ (l : List α) (k : Nat), (l.flatMap f).drop (k * m) = (l.drop k).flatMap f
  | [], k => by simp
  | x :: l, 0 => by simp
  | x :: l, k + 1 => by
    rw [List.flatMap_cons, List.drop_succ_cons, ← flat_drop hf l k, List.drop_append, hf, List.drop_of_length_le (by rw [hf, Nat.succ_mul]; omega), show (k + 1) * m - m = k * m from by rw [Nat.succ_mul]; omega]; simp

/-! ### A slice that reads as a list -/
/-- The slice value '.slice A n c' reads as the cells xs (sz of them an element), in a block below B. -/
def Rd (w : World) (B sz : Nat) (A : Option Addr) (n : Nat) (xs : List Value) : Prop :=
  xs.length = n * sz ∧ (0 < n → ∃ b off, A = some ⟨b, off, none⟩ ∧ b < B ∧ ∀ j u, xs[j]? = some u → w.cell? ⟨b, off + j, none⟩ = some u)

section
variable {w w' : World} {B B' sz n : Nat} {A : Option Addr} {xs : List Value}
theorem Rd.nil : Rd w B sz A 0 [] := ⟨by simp, fun h => absurd h (by omega)⟩
theorem Rd.kept (h : Rd w B sz A n xs) (hk : ∀ b o, b < B → w'.cell? ⟨b, o, none⟩ = w.cell? ⟨b, o, none⟩) : Rd w' B sz A n xs :=
  ⟨h.1, fun hn => by
    obtain ⟨b, off, e, hb, hc⟩ := h.2 hn
    exact ⟨b, off, e, hb, fun j u hu => (hk _ _ hb).trans (hc j u hu)⟩⟩
theorem Rd.mono (h : Rd w B sz A n xs) (hB : B ≤ B') : Rd w B' sz A n xs :=
  ⟨h.1, fun hn => by
    obtain ⟨b, off, e, hb, hc⟩ := h.2 hn
    exact ⟨b, off, e, by omega, hc⟩⟩
theorem Rd.below (h : Rd w B sz A n xs) (hb : Below B w w') : Rd w' B sz A n xs := h.kept fun b o hlt => hb.cell (p := ⟨b, o, none⟩) hlt
theorem Rd.drew (h : Rd w B sz A n xs) : Rd w.drew B sz A n xs := h
theorem Rd.drewN (h : Rd w B sz A n xs) (k : Nat) : Rd (w.drewN k) B sz A n xs := h
theorem Rd.alloc (h : Rd w B sz A n xs) (hB : B ≤ w.heap.size) (o : Obj) : Rd (w.alloc o) B sz A n xs := h.below ((Below.refl _ _).alloc hB o)
theorem Rd.setCell (h : Rd w B sz A n xs) {p : Addr} (hB : B ≤ p.block) (u : Value) : Rd (w.setCell p u) B sz A n xs := h.below ((Below.refl _ _).setCell hB u)
theorem Rd.grown (h : Rd w B sz A n xs) {row : Option Nat} (hg : w.grownBy w' row) (hB : B ≤ w.heap.size) (hr : ∀ k, row = some k → B ≤ k) : Rd w' B sz A n xs := h.below ((Below.refl _ _).grown hg hB hr)
theorem Rd.cut (h : Rd w B sz A n xs) {k cap : Nat} (hk : k ≤ n) (hc : n ≤ cap) :
    Rd w B sz (if cap = k then A else A.map (·.add (k * sz))) (n - k) (xs.drop (k * sz)) := by
  refine ⟨by rw [List.length_drop, h.1, Nat.sub_mul], fun hn => ?_⟩
  obtain ⟨b, off, rfl, hb, hcell⟩ := h.2 (by omega)
  rw [if_neg (by omega)]
  refine ⟨b, off + k * sz, ?_, hb, fun j u hu => ?_⟩
  · simp only [Option.map_some, Option.some.injEq]; unfold Addr.add; split
    · rename_i h0; rw [h0]; rfl
    · rfl
  · rw [Nat.add_assoc]; exact hcell _ u (by rw [← hu, List.getElem?_drop])
theorem Rd.front (h : Rd w B sz A n xs) {k : Nat} (hk : k ≤ n) : Rd w B sz A k (xs.take (k * sz)) := by
  refine ⟨by rw [List.length_take, h.1]; exact Nat.min_eq_left (Nat.mul_le_mul_right _ hk), fun hn => ?_⟩
  obtain ⟨b, off, rfl, hb, hcell⟩ := h.2 (by omega)
  refine ⟨b, off, rfl, hb, fun j u hu => hcell j u ?_⟩
  rw [List.getElem?_take] at hu
  split at hu
  · exact hu
  · cases hu
theorem Rd.own {base : Nat} {e : TypeId} {c : Nat} (h : w.ownsRow base e sz (.slice A n c) n xs) : Rd w w.heap.size sz A n xs := by
  refine ⟨h.1, fun hn => ?_⟩
  rcases h.2 with ⟨hv, h0⟩ | ⟨g, cap, cur, hv, hb, hg, _, _, _, ht⟩
  · omega
  · have hA : A = some ⟨g, 0, none⟩ := by injection hv
    subst hA
    have hlt : g < w.heap.size := (Array.getElem?_eq_some_iff.1 hg).1
    refine ⟨g, 0, rfl, hlt, fun j u hu => ?_⟩
    have := h.cells (g := g) rfl j u hu
    unfold Addr.add at this
    split at this
    · rename_i h0; subst h0; simpa using this
    · exact this
/-- A new block. -/
theorem Rd.new (w : World) (e : TypeId) {xs : List Value} {n : Nat} (hl : xs.length = n * sz) : Rd (w.alloc (.cells xs.toArray e)) (w.heap.size + 1) sz (some ⟨w.heap.size, 0, none⟩) n xs :=
  ⟨hl, fun _ => ⟨w.heap.size, 0, rfl, by omega, fun j u hu => by
    rw [Nat.zero_add, cell_of_row _ w.heap.size j xs.toArray e (0, 0) (heap_alloc_new w _)]; simpa using hu⟩⟩
/-- The place, and an element's cell there. -/
theorem Rd.at_ (h : Rd w B sz A n xs) (hn : 0 < n) : ∃ b off, A = some ⟨b, off, none⟩ ∧ b < B ∧ ∀ j u, xs[j]? = some u → w.cell? ⟨b, off + j, none⟩ = some u := h.2 hn
end

/-- An element of a slice of integers. -/
theorem Rd.int_at {w : World} {B n : Nat} {A : Option Addr} {k : IntKind} {l : List Int} (h : Rd w B 1 A n (l.map (Value.int k))) (hl : l.length = n) {i : Nat} (hi : i < n) :
    ∃ b off x, A = some ⟨b, off, none⟩ ∧ b < B ∧ l[i]? = some x ∧ w.cell? ⟨b, off + i, none⟩ = some (.int k x) := by
  obtain ⟨b, off, hA, hb, hc⟩ := h.at_ (by omega)
  have hg : l[i]? = some (l[i]'(by omega)) := List.getElem?_eq_getElem _
  exact ⟨b, off, _, hA, hb, hg, hc i _ (by rw [List.getElem?_map, hg]; rfl)⟩
/-- The cells of an element of a slice of structs. -/
theorem Rd.elem_at {α : Type} {f : α → List Value} {w : World} {B n sz : Nat} {A : Option Addr} {l : List α} (hf : ∀ x, (f x).length = sz) (h : Rd w B sz A n (l.flatMap f)) (hl : l.length = n) {i : Nat} (hi : i < n) :
    ∃ b off x, A = some ⟨b, off, none⟩ ∧ b < B ∧ l[i]? = some x ∧ ∀ j u, j < sz → (f x)[j]? = some u → w.cell? ⟨b, off + i * sz + j, none⟩ = some u := by
  obtain ⟨b, off, hA, hb, hc⟩ := h.at_ (by omega)
  have hg : l[i]? = some (l[i]'(by omega)) := List.getElem?_eq_getElem _
  refine ⟨b, off, _, hA, hb, hg, fun j u hj hu => ?_⟩
  rw [Nat.add_assoc]
  exact hc _ _ ((flat_get hf l i j _ hg hj).trans hu)

/-! ### Arguments opened -/
section
variable {H : Type} {enc : TypeId × Value → H} {P : Program} {w : World} {base : Nat} {spare : Nat → Bool} {held : Bool}
/-- A slice whose elements read, each by itself, as 'f x'. -/
theorem open_list {α : Type} [Inhabited α] {f : α → List Value} {m : Nat} (hf : ∀ x, (f x).length = m) (hm : 0 < m) {ok : α → Prop} {t e : TypeId} {fuel : Nat} {cs : List Value} {x : DataW H × List MemPlace}
    (ht : P.underlying t = some (.slice e)) (hc : P.cellsOf e = m)
    (helem : ∀ (n : Nat) (cs' : List Value) (y : DataW H × List MemPlace), DataW.trod enc P w base spare held n e cs' = some y → ∃ x : α, cs' = f x ∧ ok x)
    (h : DataW.trod enc P w base spare held fuel t cs = some x) :
    ∃ (A : Option Addr) (n c : Nat) (l : List α), cs = [.slice A n c] ∧ l.length = n ∧ n ≤ c ∧ c ≤ maxLen ∧ (∀ x ∈ l, ok x) ∧ Rd w w.heap.size m A n (l.flatMap f) := by
  rcases Go.Deep.open_slice ht h with ⟨hcs, _⟩ | ⟨a, len, cap, mm, n, D, Pl, hcs, hb, hl, hcm, hmm, hx, hi⟩
  · exact ⟨none, 0, 0, [], hcs, rfl, Nat.le_refl _, by simp [maxLen], (by intro x h; cases h), Rd.nil⟩
  · have hle : len ≤ mm := by rw [hmm]; split <;> omega
    have key : ∀ i, i < len → ∃ x : α, w.cells? base (a.add (i * m)) m = some (f x) ∧ ok x := by
      intro i h1
      obtain ⟨cs', hcell, htr⟩ := hi i (by omega)
      obtain ⟨x, rfl, hok⟩ := helem n cs' _ htr
      rw [hc] at hcell
      exact ⟨x, hcell, hok⟩
    obtain ⟨g, hg⟩ := Go.Deep.choose_lt key
    refine ⟨some a, len, cap, (List.range len).map g, hcs, by simp, hl, hcm, ?_, ?_, ?_⟩
    · intro x hx'
      obtain ⟨i, hi', rfl⟩ := List.mem_map.1 hx'
      exact (hg i (List.mem_range.1 hi')).2
    · rw [flat_length hf]; simp
    · intro hn
      have h0 := (hg 0 hn).1
      obtain ⟨_, hl0, hat⟩ := World.cells?_some h0
      have hspot : a.spot = none := by
        have hcell := hat 0 hm
        have hex : ∃ v, (f (g 0))[0]? = some v := ⟨(f (g 0))[0]'(by rw [hf]; exact hm), List.getElem?_eq_getElem _⟩
        obtain ⟨v, hv⟩ := hex
        rw [hv] at hcell
        simpa [Addr.add] using World.cell?_spot hcell
      obtain ⟨b, off, spot⟩ := a
      simp only at hspot
      subst hspot
      have place : ∀ q : Nat, (⟨b, off, none⟩ : Addr).add q = ⟨b, off + q, none⟩ := by
        intro q; unfold Addr.add; split
        · rename_i h0; rw [h0]; rfl
        · rfl
      have hcells : ∀ j u, (((List.range len).map g).flatMap f)[j]? = some u → w.cell? ⟨b, off + j, none⟩ = some u := by
        intro q u hu
        obtain ⟨i, j, x, rfl, hj, hix, hfu⟩ := flat_split hf _ _ _ hu
        have hil : i < len := by simpa using (List.getElem?_eq_some_iff.1 hix).1
        have hxg : x = g i := by
          rw [List.getElem?_map, List.getElem?_range hil] at hix
          exact (Option.some.inj hix).symm
        subst hxg
        have := (World.cells?_some (hg i hil).1).2.2 j hj
        rw [place, show (⟨b, off + i * m, none⟩ : Addr).add j = ⟨b, off + i * m + j, none⟩ from by unfold Addr.add; split <;> simp_all] at this
        rw [← Nat.add_assoc, this]
        exact hfu
      refine ⟨b, off, rfl, ?_, hcells⟩
      have hx0 : ∃ v, (((List.range len).map g).flatMap f)[0]? = some v := by
        have hlt : 0 < (((List.range len).map g).flatMap f).length := by rw [flat_length hf, List.length_map, List.length_range]; exact Nat.mul_pos hn hm
        exact ⟨_, List.getElem?_eq_getElem hlt⟩
      obtain ⟨v, hv⟩ := hx0
      exact World.block_lt_of_cell? w ⟨b, off + 0, none⟩ (hcells 0 v hv)

theorem map_flat (k : IntKind) (l : List Int) : l.flatMap (fun z => [Value.int k z]) = l.map (Value.int k) := by
  induction l with
  | nil => rfl
  | cons a l ih => simp [List.flatMap_cons, ih]

/-- An integer. -/
theorem arg_int {r : Reach} {b0 : Nat} {t : TypeId} {k : IntKind} {v : Value} {d : DataW H} {ps : List MemPlace} (ht : P.underlying t = some (.int k)) (hv : Value.okWide P w r b0 t v) (hd : DataW.Trod enc P w base spare held t v d ps) :
    ∃ n, v = .int k n ∧ (Lit.int k n).wf = true := by
  obtain ⟨n, h1, _, _, h2⟩ := open_int ht hv hd
  exact ⟨n, h1, h2⟩

/-- A slice whose elements read as 'f x'. -/
theorem arg_list {α : Type} [Inhabited α] {f : α → List Value} {m : Nat} (hf : ∀ x, (f x).length = m) (hm : 0 < m) {ok : α → Prop} {r : Reach} {b0 : Nat} {t e : TypeId} {v : Value} {d : DataW H} {ps : List MemPlace}
    (ht : P.underlying t = some (.slice e)) (hc : P.cellsOf e = m)
    (helem : ∀ (n : Nat) (cs' : List Value) (y : DataW H × List MemPlace), DataW.trod enc P w base spare held n e cs' = some y → ∃ x : α, cs' = f x ∧ ok x)
    (hv : Value.okWide P w r b0 t v) (hd : DataW.Trod enc P w base spare held t v d ps) :
    ∃ (A : Option Addr) (n c : Nat) (l : List α), v = .slice A n c ∧ l.length = n ∧ n ≤ c ∧ c ≤ maxLen ∧ (∀ x ∈ l, ok x) ∧ Rd w w.heap.size m A n (l.flatMap f) := by
  obtain ⟨a, len, cap, rfl⟩ := okWide_slice ht hv
  obtain ⟨fuel, h⟩ := hd
  obtain ⟨A, n, c, l, hcs, rest⟩ := open_list hf hm ht hc helem h
  simp [Value.cells] at hcs
  obtain ⟨rfl, rfl, rfl⟩ := hcs
  exact ⟨_, _, _, l, rfl, rest⟩

/-- A slice of integers. -/
theorem arg_ints {r : Reach} {b0 : Nat} {t e : TypeId} {k : IntKind} {v : Value} {d : DataW H} {ps : List MemPlace}
    (ht : P.underlying t = some (.slice e)) (he : P.underlying e = some (.int k)) (hc : P.cellsOf e = 1)
    (hv : Value.okWide P w r b0 t v) (hd : DataW.Trod enc P w base spare held t v d ps) :
    ∃ (A : Option Addr) (n c : Nat) (l : List Int), v = .slice A n c ∧ l.length = n ∧ n ≤ c ∧ c ≤ maxLen ∧ (∀ z ∈ l, (Lit.int k z).wf = true) ∧ Rd w w.heap.size 1 A n (l.map (Value.int k)) := by
  obtain ⟨A, n, c, l, h⟩ := arg_list (f := fun z => [Value.int k z]) (m := 1) (fun _ => rfl) (by omega) (ok := fun z => (Lit.int k z).wf = true) ht hc
    (fun n cs' y hy => by obtain ⟨z, h1, _, h2⟩ := DataW.trod_int he hy; exact ⟨z, h1, h2⟩) hv hd
  rw [map_flat] at h
  exact ⟨A, n, c, l, h⟩

/-- The cells of a struct whose fields are integers of one kind. -/
theorem struct_ints {t : TypeId} {fs : Array Field} {k : IntKind} {n : Nat} {cs : List Value} {y : DataW H × List MemPlace} (ht : P.underlying t = some (.struct fs)) (hone : Go.Deep.oneCellFields P fs = true) (hC : P.cellsOf t = fs.size)
    (hk : fs.all (fun f => match P.underlying f.type with | some (.int k') => k' == k | _ => false) = true) (h : DataW.trod enc P w base spare held n t cs = some y) :
    ∃ zs : List Int, cs = zs.map (Value.int k) ∧ zs.length = fs.size ∧ ∀ z ∈ zs, (Lit.int k z).wf = true := by
  obtain ⟨xs, n', _, _, hlen, hxl, hf⟩ := DataW.trod_struct ht h
  have hlen' : cs.length = fs.size := hlen.trans hC
  have key : ∀ i, i < fs.size → ∃ z : Int, cs[i]? = some (.int k z) ∧ (Lit.int k z).wf = true := by
    intro i hi
    have hfi : fs[i]? = some fs[i] := Array.getElem?_eq_getElem hi
    obtain ⟨ho, hk1⟩ := Go.Deep.hone_of hone i _ hfi
    have h1 := hf i _ hfi
    rw [ho, hk1] at h1
    have hone' : (cs.drop i).take 1 = [cs[i]'(by omega)] := by
      rw [List.drop_eq_getElem_cons (by omega)]; rfl
    rw [hone', List.getElem?_eq_getElem (by omega)] at h1
    have hkt : P.underlying fs[i].type = some (.int k) := by
      have h4 := (Array.all_eq_true.1 hk) i hi
      split at h4
      · rename_i k' h5
        rw [h5, beq_iff_eq.1 h4]
      · cases h4
    obtain ⟨z, h2, _, h3⟩ := DataW.trod_int hkt h1
    refine ⟨z, ?_, h3⟩
    rw [List.getElem?_eq_getElem (by omega)]
    simpa using h2
  obtain ⟨g, hg⟩ := Go.Deep.choose_lt key
  refine ⟨(List.range fs.size).map g, ?_, by simp, ?_⟩
  · apply List.ext_getElem?
    intro i
    by_cases hi : i < fs.size
    · rw [(hg i hi).1]; simp [hi]
    · rw [List.getElem?_eq_none (by omega)]; simp [hi]
  · intro z hz
    obtain ⟨i, hi, rfl⟩ := List.mem_map.1 hz
    exact (hg i (List.mem_range.1 hi)).2
/-- A struct by value, its fields of one cell each: the fields' values, each read by itself. -/
theorem arg_struct {r : Reach} {b0 : Nat} {t : TypeId} {fs : Array Field} {v : Value} {d : DataW H} {ps : List MemPlace} (ht : P.underlying t = some (.struct fs)) (hone : Go.Deep.oneCellFields P fs = true) (hC : P.cellsOf t = fs.size)
    (hv : Value.okWide P w r b0 t v) (hd : DataW.Trod enc P w base spare held t v d ps) :
    ∃ (us : List Value) (m : Nat), v = .agg us.toArray ∧ us.length = fs.size ∧ ∀ (i : Nat) (f : Field) (u : Value), fs[i]? = some f → us[i]? = some u → ∃ y, DataW.trod enc P w base spare held m f.type [u] = some y := by
  obtain ⟨cs, rfl, hsz⟩ := okWide_struct ht hv
  obtain ⟨fuel, hf⟩ := hd
  obtain ⟨xs, n, _, _, hlen, hxl, hg⟩ := DataW.trod_struct ht hf
  have hcl : cs.toList.length = fs.size := by simpa using hsz.trans hC
  refine ⟨cs.toList, n, by simp, hcl, fun i f u hi hu => ?_⟩
  have hif : i < fs.size := (Array.getElem?_eq_some_iff.1 hi).1
  obtain ⟨ho, hk1⟩ := Go.Deep.hone_of hone i f hi
  have h1 := hg i f hi
  rw [ho, hk1] at h1
  have hone' : ((Value.agg cs).cells.toList.drop i).take 1 = [u] := by
    show (cs.toList.drop i).take 1 = [u]
    rw [List.drop_eq_getElem_cons (by omega)]
    rw [List.getElem?_eq_getElem (by omega)] at hu
    simp only [Option.some.injEq] at hu
    rw [hu]; rfl
  rw [hone', List.getElem?_eq_getElem (by omega)] at h1
  exact ⟨_, h1⟩

/-- A struct by value, its fields integers of one kind. -/
theorem arg_struct_ints {r : Reach} {b0 : Nat} {t : TypeId} {fs : Array Field} {k : IntKind} {v : Value} {d : DataW H} {ps : List MemPlace} (ht : P.underlying t = some (.struct fs)) (hone : Go.Deep.oneCellFields P fs = true) (hC : P.cellsOf t = fs.size)
    (hk : fs.all (fun f => match P.underlying f.type with | some (.int k') => k' == k | _ => false) = true)
    (hv : Value.okWide P w r b0 t v) (hd : DataW.Trod enc P w base spare held t v d ps) :
    ∃ zs : List Int, v = .agg (zs.map (Value.int k)).toArray ∧ zs.length = fs.size ∧ ∀ z ∈ zs, (Lit.int k z).wf = true := by
  obtain ⟨cs, rfl, hsz⟩ := okWide_struct ht hv
  obtain ⟨fuel, hf⟩ := hd
  obtain ⟨zs, h1, h2, h3⟩ := struct_ints ht hone hC hk hf
  refine ⟨zs, ?_, h2, h3⟩
  have h4 : cs.toList = zs.map (Value.int k) := h1
  rw [← h4]
end
end Go.Proofs.Ytknmpfimnbenjaa.HB
