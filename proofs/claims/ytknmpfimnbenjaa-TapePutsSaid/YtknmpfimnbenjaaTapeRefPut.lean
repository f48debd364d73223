/-
  The document's own bytes of a log: hoistwayref37.Put.
-/
import Derived.Test.YtknmpfimnbenjaaTapePut
namespace Go.Proofs.Ytknmpfimnbenjaa
open Go.RowKit HB PackP TapeP
set_option linter.unusedVariables false
set_option linter.unusedSimpArgs false
namespace HB
section
variable {P : Program} {α : Type} {w : World} {base : Nat} {e : TypeId} {sz : Nat} {f : α → List Value} {v : Value} {l : List α}
/-- 'append(out, xs...)', the source nil, empty or not; where the new row lies, too. -/
theorem pushAllS {ops : Array Oper} {rest : List Oper} {o : Oper} {a : Act} {Q : Exit → Act → World → Prop} (hgd : o.guard = none) (s x : Operand) (t : TypeId)
    (ho : o.op = .call { callee := .builtin .append, args := #[s, x], argTypes := #[t, t] })
    {z : Value} {bytes : Nat} (ht : P.underlying t = some (.slice e)) (hinfo : (P.info? e).map (fun i => (i.zero, i.size, i.bytes)) = some (some z, sz, bytes)) (hzs : z.cells.size = sz) (hsz : 0 < sz) (hby : bytes ≤ 1000)
    (hs : a.eval s = v) (hown : Own w base e sz f v l) (ys : List α) (B : Nat) (A : Option Addr) (m c : Nat) (hx : a.eval x = .slice A m c) (hm : ys.length = m)
    (hr : Rd w B sz A m (ys.flatMap f)) (h1 : ∀ u ∈ ys.flatMap f, u.oneCell' = true)
    (hn : l.length ≤ 1000000000) (hm1 : m ≤ 1000000000) (hbase : base ≤ w.heap.size)
    (h : ∀ v' w', Own w' base e sz f v' (l ++ ys) → Stp w w' v v' → wpList P ops Q rest (a.put o.dst v') w') : wpList P ops Q (o :: rest) a w := by
  obtain ⟨i, hi, hz, hzz, hbb⟩ := info_parts hinfo
  subst hm
  rcases A with _ | ad
  · have hm0 : ys = [] := by
      rcases Nat.eq_zero_or_pos ys.length with h0 | h0
      · exact List.eq_nil_of_length_eq_zero h0
      · obtain ⟨b, off, hA, _⟩ := hr.2 h0
        cases hA
    subst hm0
    refine wpList_plain hgd fun K hK => ?_
    unfold Oper.wp execOp
    simp only [ho, resolve, invoke, builtin, Sem.run_bind, Sem.run_pure, Result.andThen_ok, List.map_toArray, List.map_cons, List.map_nil, hs, hx]
    have hrun : (Builtin.append_ #[t, t] o.type #[v, .slice none 0 c]).run P w = .ok v w := by
      rcases hown.2 with ⟨hv, h0⟩ | ⟨g, cap, cur, hv, _, _, hnc, _⟩
      · rw [hv]; simp [Builtin.append_, run_underlying ht, sizeOf, typeInfo, hi, Builtin.lenOf, Builtin.firstCells]
      · rw [hv]; simp [Builtin.append_, run_underlying ht, sizeOf, typeInfo, hi, Builtin.lenOf, Builtin.firstCells, hnc, storeCells]
    simp only [List.length_nil, hrun]
    exact hK _ _ (h v w (by simpa using hown) (Stp.refl _ _))
  · have hcells : ∀ j u, (ys.flatMap f)[j]? = some u → w.cell? (ad.add j) = some u := by
      intro j u hu
      rcases Nat.eq_zero_or_pos ys.length with h0 | h0
      · have : ys = [] := List.eq_nil_of_length_eq_zero h0
        subst this; simp at hu
      · obtain ⟨b, off, hA, _, hc⟩ := hr.2 h0
        injection hA with hA
        subst hA
        have := hc j u hu
        unfold Addr.add
        split
        · rename_i hj; subst hj; exact this
        · exact this
    refine wpList_append_own_at w hgd s x t ho base e i z sz bytes ht hi hz hzz hbb hzs hsz v l.length (l.flatMap f) hs hown.row ad ys.length c (ys.flatMap f) hx hr.1 hcells h1 (by simp only [maxLen]; omega)
      (Nat.le_trans (Nat.mul_le_mul_left _ hby) (by omega)) hbase (fun v' w' k1 k2 _ k3 => h v' w' ?_ ⟨k2, k3.imp id fun e => ⟨_, e, Nat.le_refl _⟩⟩)
    show w'.ownsRow base e sz v' (l ++ ys).length ((l ++ ys).flatMap f)
    simpa using k1
end
end HB
theorem u8_ones (l : List Int) : ∀ u ∈ l.flatMap (num .u8), u.oneCell' = true := by
  rw [map_flat]; intro u hu; obtain ⟨z, _, rfl⟩ := List.mem_map.1 hu; rfl
/-- new bytes, beside what was there -/
def PI (w wr : World) (a b c o : Value) (d ys : List Int) (e : Ending) (w' : World) : Prop :=
  ∃ A' c', e = .returned (.slice A' ys.length c') ∧ PS w w' a b c o d ∧ Rd w' w'.heap.size 1 A' ys.length (ys.flatMap (num .u8)) ∧ Below wr.heap.size wr w'
theorem ps_ints {w wr : World} {a b c o : Value} {d : List Int} (h : PS w wr a b c o d) (l : List Int) (n g : Nat) (hg : g = wr.heap.size) (hn : l.length = n) (hl : n ≤ 1000) (hok : ∀ x ∈ l, I64 x) (ty : TypeId) :
    Calls Try.prog 56 #[.slice (some ⟨g, 0, none⟩) n n] (wr.alloc (.cells (l.map (Value.int .i64)).toArray ty)) (PI w wr a b c o d (e1 l)) := by
  subst hg
  have hr := Rd.new wr ty (xs := l.map (Value.int .i64)) (n := n) (sz := 1) (by rw [List.length_map, hn, Nat.mul_one])
  refine (ref_ints (some ⟨wr.heap.size, 0, none⟩) n n (wr.heap.size + 1) l _ hr (by simp) hn hl hok).mono ?_
  rintro e w' ⟨⟨v, rfl, ho⟩, hb⟩
  obtain ⟨A', c', rfl, -, hrd⟩ := Own.shape ho
  have hb2 := ((Below.refl wr.heap.size wr).alloc (Nat.le_refl _) (.cells (l.map (Value.int .i64)).toArray ty)).trans (hb.mono (by simp))
  exact ⟨A', c', rfl, h.grow hb2, hrd, hb2⟩
theorem ps_rput {w wr : World} {a b c o : Value} {d : List Int} (h : PS w wr a b c o d) (n : Nat) (hn : n < 18446744073709551616) :
    Calls Try.prog 12 #[.int .u64 n] wr (PI w wr a b c o d (put n)) := by
  refine (ref_put n hn wr).mono ?_
  rintro e w' ⟨⟨v, rfl, ho⟩, hb⟩
  obtain ⟨A', c', rfl, -, hrd⟩ := Own.shape ho
  exact ⟨A', c', rfl, h.grow hb, hrd, hb⟩
theorem e1_le {l : List Int} (h : ∀ x ∈ l, I64 x) (hl : l.length ≤ 1000) : (e1 l).length ≤ 1000000000 := by have := e1_len l h; omega
theorem put_le9 {n : Nat} (h : n < 18446744073709551616) : (put n).length ≤ 1000000000 := by have := put_le h; omega
set_option maxRecDepth 100000 in
set_option maxHeartbeats 4000000 in
theorem ref_put37 (A A' : Option Addr) (n c n' c' B : Nat) (x : Lo) (w : World) (hT : Trs w B A n x.ts) (hL : Lgs w B A' n' x.ls) (hB : B ≤ w.heap.size) (hok : x.ok) (hlen : (pB x).length ≤ 900000) (hn : n ≤ 900000) (hn' : n' ≤ 900000) :
    Calls Try.prog 31 #[.agg #[.slice A n c, .slice A' n' c', .int .i64 x.u]] w fun e w' => (∃ v, e = .returned v ∧ OwnB w' w.heap.size v (76 :: pB x)) ∧ Below w.heap.size w w' := by
  have HT := hide hT
  have HL := hide hL
  have HOK := hide hok
  have ln := hT.2
  have ln' := hL.len
  have HF : Hid (∃ F, F = 76 :: pB x ∧ F.length ≤ 900001) := hide ⟨_, rfl, by simpa using hlen⟩
  obtain ⟨F, hF, hFl⟩ := HF.out
  obtain ⟨T, hTt⟩ : ∃ T, T = put n' ++ x.ls.flatMap pC := ⟨_, rfl⟩
  have eF : [76] ++ e1 [x.u] ++ put n ++ (x.ts.flatMap pT ++ T) = F := by rw [hF, hTt]; simp [pB, e1, ln, ln', List.append_assoc]
  have EF := hide eF
  have ETt := hide hTt
  have lenOf : ∀ d r : List Int, d ++ r = F → d.length ≤ 1000000 := fun d r h => by have := congrArg List.length h; rw [List.length_append] at this; omega
  have HLEN := hide lenOf
  have L1 := hide (HLEN.out [76] (e1 [x.u] ++ (put n ++ (x.ts.flatMap pT ++ T))) (by rw [← EF.out]; simp [List.append_assoc]))
  have L2 := hide (HLEN.out ([76] ++ e1 [x.u]) (put n ++ (x.ts.flatMap pT ++ T)) (by rw [← EF.out]; simp [List.append_assoc]))
  have L3 := hide (put_le9 (n := n) (by omega))
  have L3' := hide (put_le9 (n := n') (by omega))
  have hu1 : ∀ y ∈ [x.u], I64 y := by intro y hy; simp at hy; subst hy; exact HOK.out.u
  have L4 := hide (e1_le hu1 (by simp))
  rw [← hF]
  clear hT hL hok hlen hTt eF hF lenOf HF
  have ew1 : IntKind.u64.wrap (n : Int) = (n : Int) := by rw [IntKind.wrap_u64]; omega
  have ew2 : IntKind.u64.wrap (n' : Int) = (n' : Int) := by rw [IntKind.wrap_u64]; omega
  have HS := hide (ps_start w (.slice A n c) (.slice A' n' c') (.int .i64 x.u) 57)
  have HI1 := hide (ps_ints HS.out [x.u] 1 (w.heap.size + 1 + 1) (by simp) rfl (by omega) hu1 3)
  clear hu1
  go_enter Try.func31, Try.ntmps31
  go_wp2_with (first
    | (at_builtin; refine pushAllS rfl _ _ 22 rfl Try.underlying22 Byte.info rfl (by omega) (by omega) rfl hi2.own (put n) wi2.heap.size A2 _ c2 rfl rfl hrd2 (u8_ones _) (by have := L2.out; omega) L3.out hi2.z ?_; intro o2 w2 hown2 hst2; have hs2 := hi2.step hown2 hst2; have HS2 := hide hs2; have HT2 := hide hst2; clear hown2)
    | (go_at_call 12; refine (ps_rput HS1.out n (by omega)).mono ?_; rintro e wi2 ⟨A2, c2, rfl, hi2, hrd2, hbi2⟩; obtain ⟨k0, k1, k2⟩ := hi2.bx)
    | (at_builtin; refine pushAllS rfl _ _ 22 rfl Try.underlying22 Byte.info rfl (by omega) (by omega) rfl hi1.own (e1 [x.u]) wi1.heap.size A1 _ c1 rfl rfl hrd1 (u8_ones _) (by have := L1.out; omega) L4.out hi1.z ?_; intro o1 w1 hown1 hst1; have hs1 := hi1.step hown1 hst1; have HS1 := hide hs1; have HT1 := hide hst1; clear hown1; obtain ⟨m0, m1, m2⟩ := hs1.bx)
    | (go_at_call 56; refine (HI1.out).mono ?_; rintro e wi1 ⟨A1, c1, rfl, hi1, hrd1, hbi1⟩; obtain ⟨k0, k1, k2⟩ := hi1.bx))
  clear HS1 hs1 hst1 HT1 hi1 hrd1 hbi1 HI1 HS hst2 HT2 hi2 hrd2 hbi2
  go_loopw [3, 5] (fun o i wr => ∃ (k : Nat) (d : List Int), k ≤ n ∧ i = .int .i64 k ∧ PS w wr (.slice A n c) (.slice A' n' c') (.int .i64 x.u) o d ∧ d ++ ((x.ts.drop k).flatMap pT ++ T) = F) (fun _ i _ => n - (intOf i).toNat)
  case atStart => exact ⟨0, _, Nat.zero_le _, rfl, HS2.out, EF.out⟩
  case round =>
    obtain ⟨k, d, hk, rfl, hps, hd⟩ := hrel
    have HPS := hide hps
    have HD := hide hd
    have hb0 := hps.b
    obtain ⟨m0, m1, m2⟩ := hps.bx
    clear hps hd HS2
    by_cases hlt : k < n
    · obtain ⟨b, off, t, hA, hb, ht, c0, c1, c2, c3, c4, c5, c6⟩ := (HT.out.below (hb0.mono hB)).at_ hlt
      have HDN := hide (show d ++ e1 t.ns ++ ((x.ts.drop (k + 1)).flatMap pT ++ T) = F from by rw [← HD.out, drop_cons ht]; simp [pT, List.append_assoc])
      have hto := HOK.out.ts t (List.mem_of_getElem? ht)
      have L5 := hide (e1_le hto (by simp [Tp.ns]))
      have L6 := hide (HLEN.out _ _ HD.out)
      have i0 : (0 : Int) ≤ (k : Int) := by omega
      have i1 : (k : Int) < (n : Int) := by omega
      subst hA
      have HI3 := hide (ps_ints (HPS.out.grow ((Below.refl wr.heap.size wr).alloc (Nat.le_refl _) (.cells (tc t).toArray 100))) t.ns 7 (wr.heap.size + 1) (by simp) rfl (by omega) hto 3)
      clear ht hto hb0 HD
      go_wp2_with (first
        | (at_builtin; refine pushAllS rfl _ _ 22 rfl Try.underlying22 Byte.info rfl (by omega) (by omega) rfl hi3.own (e1 t.ns) wi3.heap.size A3 _ c3 rfl rfl hrd3 (u8_ones _) (by have := L6.out; omega) L5.out hi3.z ?_; intro o4 w4 hown4 hst4; have hs4 := hi3.step hown4 hst4; have HS4 := hide hs4; have HT4 := hide hst4; clear hown4)
        | (go_at_call 56; refine (HI3.out).mono ?_; rintro e wi3 ⟨A3, c3, rfl, hi3, hrd3, hbi3⟩; obtain ⟨k0, k1, k2⟩ := hi3.bx))
      go_roundw
      case rel => exact ⟨k + 1, _, by omega, by go_num, HS4.out, HDN.out⟩
      case measure => simp [intOf]; omega
    · obtain rfl : k = n := by omega
      have HD1 := hide (show d ++ put n' ++ (x.ls.drop 0).flatMap pC = F from by
        have h := HD.out
        rw [List.drop_of_length_le (by rw [ln]; exact Nat.le_refl _), ETt.out] at h
        simpa [List.append_assoc] using h)
      have L6 := hide (HLEN.out _ _ HD.out)
      go_wp2_with (first
        | (at_builtin; refine pushAllS rfl _ _ 22 rfl Try.underlying22 Byte.info rfl (by omega) (by omega) rfl hi5.own (put n') wi5.heap.size A5 _ c5 rfl rfl hrd5 (u8_ones _) (by have := L6.out; omega) L3'.out hi5.z ?_; intro o6 w6 hown6 hst6; have hs6 := hi5.step hown6 hst6; have HS6 := hide hs6; have HT6 := hide hst6; clear hown6)
        | (go_at_call 12; refine (ps_rput HPS.out n' (by omega)).mono ?_; rintro e wi5 ⟨A5, c5, rfl, hi5, hrd5, hbi5⟩; obtain ⟨k0, k1, k2⟩ := hi5.bx))
      clear k0 k1 k2 m0 m1 m2 hs6 hst6 HT6 hi5 hrd5 hbi5 hb0 HPS HD
      go_loopw [3, 7] (fun o i wr => ∃ (k' : Nat) (d : List Int), k' ≤ n' ∧ i = .int .i64 k' ∧ PS w wr (.slice A k c) (.slice A' n' c') (.int .i64 x.u) o d ∧ d ++ (x.ls.drop k').flatMap pC = F) (fun _ i _ => n' - (intOf i).toNat)
      case atStart => exact ⟨0, _, Nat.zero_le _, rfl, HS6.out, HD1.out⟩
      case round =>
        obtain ⟨k', d3, hk', rfl, hps, hd⟩ := hrel
        have HPS := hide hps
        have HD := hide hd
        have hb0 := hps.b
        obtain ⟨m0, m1, m2⟩ := hps.bx
        clear hps hd HS6 HD1
        by_cases hlt' : k' < n'
        · obtain ⟨b, off, A2, n2, c2, l, hA, hb, hg, c0w, hrd, hl2, -⟩ := HL.out.at_ hlt'
          have hbw : b < w.heap.size := by omega
          have c0 := (hb0.cell (p := ⟨b, off + k', none⟩) hbw).trans c0w
          have HC0 := hide c0w
          obtain ⟨R, hR⟩ : ∃ R, R = (x.ls.drop (k' + 1)).flatMap pC := ⟨_, rfl⟩
          have hd1 : d3 ++ put n2 ++ ((l.drop 0).flatMap pL ++ R) = F := by
            rw [← HD.out, hR, drop_cons hg, ← hl2]; simp [pC, List.append_assoc]
          have h2 : n2 ≤ 900001 := by
            have h3 := flat_long pL pL_pos l
            have h4 := congrArg List.length hd1
            simp only [List.length_append, List.drop_zero] at h4
            omega
          have HD1 := hide hd1
          have HR := hide hR
          have HLO := hide (HOK.out.ls l (List.mem_of_getElem? hg))
          have HRD := hide hrd
          have HL2 := hide hl2
          have L7 := hide (HLEN.out _ _ HD.out)
          have L8 := hide (put_le9 (n := n2) (by omega))
          have ew3 : IntKind.u64.wrap (n2 : Int) = (n2 : Int) := by rw [IntKind.wrap_u64]; omega
          have i0 : (0 : Int) ≤ (k' : Int) := by omega
          have i1 : (k' : Int) < (n' : Int) := by omega
          subst hA
          clear hR hg hb0 hd1 hrd hl2 c0w
          go_wp2_with (first
            | (at_builtin; refine pushAllS rfl _ _ 22 rfl Try.underlying22 Byte.info rfl (by omega) (by omega) rfl hi7.own (put n2) wi7.heap.size A7 _ c7 rfl rfl hrd7 (u8_ones _) (by have := L7.out; omega) L8.out hi7.z ?_; intro o8 w8 hown8 hst8; have hs8 := hi7.step hown8 hst8; have HS8 := hide hs8; have HT8 := hide hst8; clear hown8)
            | (go_at_call 12; refine (ps_rput HPS.out n2 (by omega)).mono ?_; rintro e wi7 ⟨A7, c7, rfl, hi7, hrd7, hbi7⟩))
          clear c0 m0 m1 m2 hs8 hst8 HT8 hi7 hrd7 hbi7
          go_loopw [3, 8] (fun o j wq => ∃ (y : Nat) (d2 : List Int), y ≤ n2 ∧ j = .int .i64 y ∧ PS w wq (.slice A k c) (.slice (some ⟨b, off, none⟩) n' c') (.int .i64 x.u) o d2 ∧ d2 ++ ((l.drop y).flatMap pL ++ R) = F) (fun _ j _ => n2 - (intOf j).toNat)
          case atStart => exact ⟨0, _, Nat.zero_le _, rfl, HS8.out, HD1.out⟩
          case round =>
            obtain ⟨y, d2, hy, rfl, hps2, hd2⟩ := hrel
            have HPS2 := hide hps2
            have HD2 := hide hd2
            have c0 := (hps2.b.cell (p := ⟨b, off + k', none⟩) hbw).trans HC0.out
            have hrd2 := HRD.out.below (hps2.b.mono hB)
            obtain ⟨m0, m1, m2⟩ := hps2.bx
            clear hps2 hd2 HPS HD HD1 HS8
            by_cases hly : y < n2
            · obtain ⟨b2, off2, g, hA2, hb2, hg, q0, q1, q2, q3⟩ := legs_at hrd2 HL2.out hly
              have j0 : (0 : Int) ≤ (y : Int) := by omega
              have j1 : (y : Int) < (n2 : Int) := by omega
              obtain ⟨ob, hob⟩ : ∃ ob, ob = g.o := ⟨_, rfl⟩
              rw [← hob] at q3
              have hgo := HLO.out g (List.mem_of_getElem? hg)
              have hF0 : d2 ++ e1 g.ns ++ put (dn ob) ++ ((l.drop (y + 1)).flatMap pL ++ R) = F := by
                rw [← HD2.out, drop_cons hg, hob]; simp [pL, List.append_assoc]
              have L9 := hide (HLEN.out d2 _ HD2.out)
              have L10 := hide (HLEN.out (d2 ++ e1 g.ns) (put (dn ob) ++ ((l.drop (y + 1)).flatMap pL ++ R)) (by rw [← hF0]; simp [List.append_assoc]))
              have L11 := hide (e1_le hgo (by simp [Lg.ns]))
              have HF0 := hide hF0
              have HQ9 := hide (cell4 wr (.int .i64 g.t) (.int .i64 g.p) (.int .i64 g.d) (.bool ob) 102).2.2.2
              have HNE := hide (HPS2.out.own.outside (Nat.le_refl _))
              have HI9 := hide (ps_ints (HPS2.out.grow ((Below.refl wr.heap.size wr).alloc (Nat.le_refl _) (.cells #[.int .i64 g.t, .int .i64 g.p, .int .i64 g.d, .bool ob] 102))) g.ns 3 (wr.heap.size + 1) (by simp) rfl (by omega) hgo 3)
              subst hA2
              clear hob hgo hF0 hg hrd2
              rcases Bool.eq_false_or_eq_true ob with hob2 | hob2
              · subst hob2
                have HP1 := hide (show put (dn true) = [1] from put_small (by decide))
                rw [HP1.out] at HF0
                go_wp2_with (first
                  | (at_builtin; refine push2 rfl _ _ 22 rfl Try.underlying22 Byte.info rfl (by omega) (by omega) rfl (HS10.out.own.alloc _) 1 ⟨_, 0, none⟩ 1 rfl rfl (cell_one_new _ _ _) (by simp [Value.oneCell']) (by have := L10.out; omega) (Nat.le_trans HS10.out.z (by simp)) ?_; intro o11 w11 hown11 hb11 hg11 hn11)
                  | (at_builtin; refine pushAllS rfl _ _ 22 rfl Try.underlying22 Byte.info rfl (by omega) (by omega) rfl hi9.own (e1 g.ns) wi9.heap.size A9 _ c9 rfl rfl hrd9 (u8_ones _) (by have := L9.out; omega) L11.out hi9.z ?_; intro o10 w10 hown10 hst10; have hs10 := hi9.step hown10 hst10; have HS10 := hide hs10; have HT10 := hide hst10; clear hown10; have qd := HT10.out.cell (p := ⟨wr.heap.size, 3, none⟩) ((hbi9.cell (p := ⟨wr.heap.size, 3, none⟩) (by simp)).trans HQ9.out) HNE.out)
                  | (go_at_call 56; refine (HI9.out).mono ?_; rintro e wi9 ⟨A9, c9, rfl, hi9, hrd9, hbi9⟩; obtain ⟨k0, k1, k2⟩ := hi9.bx))
                go_roundw
                case rel => exact ⟨y + 1, _, by omega, by go_num, (HS10.out.grow ((Below.refl w10.heap.size w10).alloc (Nat.le_refl _) _)).step hown11 ⟨hg11, hn11.imp id fun e => ⟨_, e, Nat.le_refl _⟩⟩, HF0.out⟩
                case measure => simp [intOf]; omega
              · subst hob2
                have HP1 := hide (show put (dn false) = [0] from put_small (by decide))
                rw [HP1.out] at HF0
                go_wp2_with (first
                  | (at_builtin; refine push2 rfl _ _ 22 rfl Try.underlying22 Byte.info rfl (by omega) (by omega) rfl (HS10.out.own.alloc _) 0 ⟨_, 0, none⟩ 1 rfl rfl (cell_one_new _ _ _) (by simp [Value.oneCell']) (by have := L10.out; omega) (Nat.le_trans HS10.out.z (by simp)) ?_; intro o11 w11 hown11 hb11 hg11 hn11)
                  | (at_builtin; refine pushAllS rfl _ _ 22 rfl Try.underlying22 Byte.info rfl (by omega) (by omega) rfl hi9.own (e1 g.ns) wi9.heap.size A9 _ c9 rfl rfl hrd9 (u8_ones _) (by have := L9.out; omega) L11.out hi9.z ?_; intro o10 w10 hown10 hst10; have hs10 := hi9.step hown10 hst10; have HS10 := hide hs10; have HT10 := hide hst10; clear hown10; have qd := HT10.out.cell (p := ⟨wr.heap.size, 3, none⟩) ((hbi9.cell (p := ⟨wr.heap.size, 3, none⟩) (by simp)).trans HQ9.out) HNE.out)
                  | (go_at_call 56; refine (HI9.out).mono ?_; rintro e wi9 ⟨A9, c9, rfl, hi9, hrd9, hbi9⟩; obtain ⟨k0, k1, k2⟩ := hi9.bx))
                go_roundw
                case rel => exact ⟨y + 1, _, by omega, by go_num, (HS10.out.grow ((Below.refl w10.heap.size w10).alloc (Nat.le_refl _) _)).step hown11 ⟨hg11, hn11.imp id fun e => ⟨_, e, Nat.le_refl _⟩⟩, HF0.out⟩
                case measure => simp [intOf]; omega
            · obtain rfl : y = n2 := by omega
              go_wp2_with fail
              go_roundw
              case rel => exact ⟨k' + 1, d2, by omega, by go_num, HPS2.out, by rw [← HR.out]; have h := HD2.out; rw [List.drop_of_length_le (by rw [HL2.out]; exact Nat.le_refl _)] at h; simpa using h⟩
              case measure => simp [intOf]; omega
        · obtain rfl : k' = n' := by omega
          go_wp2_with fail
          go_ret
          refine ⟨⟨_, rfl, ?_⟩, HPS.out.b⟩
          have h := HD.out
          have hl := HL.out.len
          rw [List.drop_of_length_le (by rw [hl]; exact Nat.le_refl _), List.flatMap_nil, List.append_nil] at h
          rw [← h]
          exact HPS.out.own.small (by omega)
end Go.Proofs.Ytknmpfimnbenjaa
