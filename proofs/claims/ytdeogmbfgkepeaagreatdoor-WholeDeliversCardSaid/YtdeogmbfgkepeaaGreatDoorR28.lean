/- Contracts for WholeDelivers. -/
import Derived.Test.YtdeogmbfgkepeaaGreatDoorR08
import Derived.Test.YtdeogmbfgkepeaaGreatDoorR15
set_option linter.unusedVariables false
set_option linter.unusedSimpArgs false
set_option maxRecDepth 100000
set_option maxHeartbeats 64000000
namespace Go.Proofs.YtdeogmbfgkepeaaGreatDoor
open Go.Proofs.Tryz
open Go.Value renaming int->O
open Go.IntKind renaming i64->J
section
open Go.RowKit HB
def Tz(w:l6):Prop:=∀ k:Nat,k<64->∃ u:Int,0<=u/\u<=255/\w.cell? ⟨5,k,none⟩=some (.int .u8 u)
theorem Tz.below{w w':l6}{D:Nat}(h:Tz w)(hb:Below D w w')(hD:5<D):Tz w':=fun k hk=>by
 obtain⟨u,h0,h1,h2⟩:=h k hk;exact⟨u,h0,h1,(hb.cell (p:=⟨5,k,none⟩) hD).trans h2⟩
theorem ek(z:Int):0<=IntKind.u64.wrap z/288230376151711744/\IntKind.u64.wrap z/288230376151711744<64:=by
 have h:IntKind.u64.wrap z=z%18446744073709551616:=rfl;rw[h];omega
theorem WQ(x:Int)(w:l6)(h:Tz w):Calls prog 293 #[.int .u64 x] w fun e w'=>RI e/\w'=w:=by
 by_cases h0:x=0
 ·subst h0
  go_in
  go_wp2_with fail;go_ret;exact⟨⟨_,rfl⟩,rfl⟩
 ·have e0:(x==0)=false:=by simpa using h0
  clear h0;obtain⟨h1,h2⟩:=ek (bits .and .u64 x (IntKind.u64.wrap (-x))*285870213051353865);obtain⟨u,-,-,hu⟩:=h (IntKind.u64.wrap (bits .and .u64 x (IntKind.u64.wrap (-x))*285870213051353865)/288230376151711744).toNat (by omega)
  go_in
  go_wp2_with fail;go_ret;exact⟨⟨_,rfl⟩,rfl⟩
theorem el(x:Int)(w:l6):Calls prog 287 #[.int .u64 x] w fun e w'=>RI e/\w'=w:=by
 go_in
 go_wp2_with fail;go_ret;exact⟨⟨_,rfl⟩,rfl⟩
theorem dm(x:Int)(w:l6):Calls prog 95 #[.int .u64 x] w fun e w'=>RI e/\w'=w:=by
 go_in
 go_wp2_with fail
 all_goals
  go_ret;exact⟨⟨_,rfl⟩,rfl⟩
theorem aJ(x:Int)(w:l6):Calls prog 282 #[.int .u64 x] w fun e w'=>RI e/\w'=w:=by
 go_in
 go_wp2_with(go_at_call 95;refine(dm x _).mono ?_;rintro e w1 ⟨⟨z,rfl⟩,rfl⟩);go_ret;exact⟨⟨_,rfl⟩,rfl⟩
def RIB(e:Ending):Prop:=∃(n:Int)(b:Bool),e=.returned (.tuple #[O J n,.bool b])
theorem RIB.mk(n:Int)(b:Bool):RIB (.returned (.tuple #[O J n,.bool b])):=⟨n,b,rfl⟩
theorem Bs.rest{w W W':l6}{q:Nat}{l:iZ}(h:Bx W q l)(hq:q<W.heap.size)(hb:fj W W'):Bx W' q l:=h.below hb hq
theorem YV(a b n:Int)(w:l6)(ht:Tz w)(hD:5<w.heap.size):Calls prog 285 #[zy a b,O J n] w fun e w'=>RIB e/\fj w w':=by
 have h2:=ze (Bs.one w [.int .u64 a,.int .u64 b] 325);have h4:=ze (fun V(hb:fj w V) x=>WQ x V (ht.below hb hD));clear ht
 go_in
 go_wp2_with(first
  |(go_at_call 293;(with_reducible refine(h4.o _ h1.o _).mono ?_);rintro r w3 ⟨⟨z,rfl⟩,rfl⟩)
  |(go_at_call 289;refine(ux a b n _).mono ?_;rintro r w1 ⟨rfl,h0⟩;generalize qN a n=x0;generalize qO b n=x1;have h3:=ze (h2.o.step h0);have h1:=ze ((h3.o.new (q:=w1.heap.size) rfl [.int .u64 x0,.int .u64 x1] 325).b);have hz:=h0.size;clear h0))
 all_goals
  go_ret2;exact⟨RIB.mk _ _,h1.o⟩
theorem YW(a b n:Int)(w:l6):Calls prog 284 #[zy a b,O J n] w fun e w'=>RIB e/\fj w w':=by
 have h2:=ze (Bs.one w [.int .u64 a,.int .u64 b] 325);by_cases h0:n<0
 ·go_in
  go_wp2_with fail;go_ret2;exact⟨RIB.mk _ _,h2.o.b⟩
 ·go_in
  go_wp2_with(first
   |(go_at_call 282;(with_reducible refine(aJ _ _).mono ?_);rintro r w3 ⟨⟨z,rfl⟩,rfl⟩)
   |(go_at_call 290;refine(xG a b _ _).mono ?_;rintro r w1 ⟨rfl,h1⟩;generalize jY a _=x0;generalize jZ b _=x1;have h3:=ze (h2.o.step h1);have h4:=ze ((h3.o.new (q:=w1.heap.size) rfl [.int .u64 x0,.int .u64 x1] 325).b);have hz:=h1.size;clear h1))
  all_goals
   go_ret2;exact⟨RIB.mk _ _,h4.o⟩
theorem ld(a b:Int)(w:l6):Calls prog 276 #[zy a b] w fun e w'=>RI e/\fj w w':=by
 have HB:=ze (Bs.one w [.int .u64 a,.int .u64 b] 325)
 go_in
 go_wp2_with fail;refine j9 (w:=w) (fun W=>Bs w W [(w.heap.size,[.int .u64 a,.int .u64 b])]) HB.o (by go_grown) (by simp) ?_;rintro W hb h2 h3;clear HB h2 h3;have HB:=ze hb;clear hb;have MK:=ze (fun(W:l6)(h:Bs w W [(w.heap.size,[.int .u64 a,.int .u64 b])])=>(show Bs w W [(w.heap.size,[.int .u64 a,.int .u64 b])]/\xD (.int .u64 a) (.int .u64 b) W (w.heap.size)from⟨h,(h.cell (q:=w.heap.size) (l:=[.int .u64 a,.int .u64 b]) (by simp)).k2⟩))
 go_region_held3 (fun W=>Bs w W [(w.heap.size,[.int .u64 a,.int .u64 b])]/\xD (.int .u64 a) (.int .u64 b) W (w.heap.size))
  (first|(with_reducible exact MK.o _ h1.o)|(with_reducible exact MK.o _ HB.o.drew))
  (first
   |(go_at_call 287;go_split_ands;(with_reducible refine(el _ _).mono ?_);rintro r wX ⟨⟨z,rfl⟩,rfl⟩;have h1:=ze (show Bs w _ [(w.heap.size,[.int .u64 a,.int .u64 b])]from by assumption)))
 all_goals
  go_split_ands;have h0:=ze (show Bs w _ [(w.heap.size,[.int .u64 a,.int .u64 b])]from by assumption);go_wp2_with fail;go_ret;exact⟨⟨_,rfl⟩,h0.o.b⟩
theorem qQ(s:Sc)(hs:s.ok)(sA:iX)(sn sk:Nat)(a b p d:Int)(w:l6)(p0:0<=p)(p1:p<=10000):Calls prog 275 #[s.v sA sn sk,zy a b,O J p,O J d] w fun e w'=>QU e/\fj w w':=by
 have g0:=hs.gap.1;have g1:=hs.gap.2;have h:=Int.emod_add_mul_ediv p s.gap;have h8:=iB p (show s.gap≠0 by omega);have h9:=du p (show 0<s.gap by omega);have h7:0<=p/s.gap:=Wi p0 (by omega);have hc:p/s.gap<=10000:=iQ (iI _ p0) p1;have HF:=ze (fun V=>jB p s.gap (p/s.gap) (p%s.gap) V (by rw[cX];omega) h7 h8 h9 (by omega));have h2:=ze (Bs.three w (s.ls sA sn sk) [.int .u64 a,.int .u64 b] [.int .u64 0,.int .u64 0] 25 325 325);have h5:=ze (fun f(h0:0<=f)(h1:f<=10001) V=>yv a b f d V (by omega) (by omega));generalize p/s.gap=f at*;generalize p%s.gap=r at*;clear h
 go_in
 go_upto_region 1 with(fail);refine j9 (w:=w) (fun W=>Bs w W [(w.heap.size+1+1,[.int .u64 0,.int .u64 0]),(w.heap.size+1,[.int .u64 a,.int .u64 b]),(w.heap.size,s.ls sA sn sk)]) h2.o (by go_grown) (by simp;omega) ?_;rintro W hb h6 ha;clear h2 h6 ha;have HB:=ze hb;clear hb;obtain⟨⟨s0,s1,s2,s3,s4,s5,s6,s7,s8,s9,s10,s11,s12⟩,-⟩:=(HB.o.cell (q:=w.heap.size) (l:=s.ls sA sn sk) (by simp)).o13;obtain⟨⟨c0,c1⟩,-⟩:=(HB.o.cell (q:=w.heap.size+1) (l:=[.int .u64 a,.int .u64 b]) (by simp)).o2;have he:=(HB.o.lt (q:=w.heap.size+1+1) (l:=[.int .u64 0,.int .u64 0]) (by simp));cases hx:decide (r=0)
 all_goals
  have HX:=ze hx;clear hx;by_cases hd:d<0
  all_goals
   go_wp2_with(first
    |(go_at_call 227;refine(HF.o _).mono ?_;rintro e w1 ⟨rfl,m,rfl⟩;rw[HX.o])
    |(go_at_call 278;(with_reducible refine(h5.o _ (by omega) (by omega) _).mono ?_);rintro r w2 ⟨rfl,h4⟩;generalize uz a _ d=y0;generalize uB b _ d=y1;have h3:=ze ((HB.o.drewN m).step h4);obtain⟨⟨j0,j1⟩,i0,i1⟩:=(h3.o.cell (q:=w.heap.size+1+1) (l:=[.int .u64 0,.int .u64 0]) (by simp)).o2;clear h4))
   refine bodyPost_ret (v:=zy y0 y1) (by rw[zi rfl];go_simp) rfl ?_;exact⟨⟨_,_,rfl⟩,(h3.o.b.setCell (p:=⟨w.heap.size+1+1,0,none⟩) (by simp only;omega) _).setCell (p:=⟨w.heap.size+1+1,1,none⟩) (by simp only;omega) _⟩
theorem Kf(s:Sc)(hs:s.ok)(sA:iX)(sn sk:Nat)(a b p q:Int)(w:l6)(p0:0<=p)(p1:p<=10000)(q0:0<=q)(q1:q<=10000):Calls prog 274 #[s.v sA sn sk,zy a b,O J p,O J q] w fun e w'=>RI e/\fj w w':=by
 have h4:=ze (Bs.two w (s.ls sA sn sk) [.int .u64 a,.int .u64 b] 25 325);have h2:0<=min p q/\min p q<=10000:=by omega
 have h3:0<=max p q/\max p q<=10000:=by omega
 have h5:=ze (fun V=>qQ s hs sA sn sk a b (min p q) 1 V h2.1 h2.2);have h6:=ze (fun V=>qQ s hs sA sn sk a b (max p q) (-1) V h3.1 h3.2);clear h2 h3
 go_in
 go_upto_region 1 with(fail);refine j9 (w:=w) (fun W=>Bs w W [(w.heap.size+1,[.int .u64 a,.int .u64 b]),(w.heap.size,s.ls sA sn sk)]) h4.o (by go_grown) (by simp;omega) ?_;rintro W hb h8 h9;clear h4 h8 h9;have HB:=ze hb;clear hb;have MK:=ze (fun(W:l6)(h:Bs w W [(w.heap.size+1,[.int .u64 a,.int .u64 b]),(w.heap.size,s.ls sA sn sk)])=>(show Bs w W [(w.heap.size+1,[.int .u64 a,.int .u64 b]),(w.heap.size,s.ls sA sn sk)]/\xD (.int .u64 a) (.int .u64 b) W (w.heap.size+1)/\s.K sA sn sk W (w.heap.size)from⟨h,(h.cell (q:=w.heap.size+1) (l:=[.int .u64 a,.int .u64 b]) (by simp)).k2,(h.cell (q:=w.heap.size) (l:=s.ls sA sn sk) (by simp)).k13 rfl⟩))
 go_region_held3 (fun W=>Bs w W [(w.heap.size+1,[.int .u64 a,.int .u64 b]),(w.heap.size,s.ls sA sn sk)]/\xD (.int .u64 a) (.int .u64 b) W (w.heap.size+1)/\s.K sA sn sk W (w.heap.size))
  (first|(with_reducible exact MK.o _ h1.o)|(with_reducible exact MK.o _ HB.o.drew))
  (first
   |(go_at_call 275;go_split_ands;(with_reducible refine(h6.o _).mono ?_);rintro r wX ⟨⟨x0,x1,rfl⟩,h0⟩;have h1:=ze (Bs.stp h0 (by assumption)))
   |(go_at_call 275;go_split_ands;(with_reducible refine(h5.o _).mono ?_);rintro r wX ⟨⟨y0,y1,rfl⟩,h0⟩;have h1:=ze (Bs.stp h0 (by assumption)))
   |(go_at_call 286;go_split_ands;(with_reducible refine(ax _ _ _ _ _).mono ?_);rintro r wX ⟨⟨z0,z1,rfl⟩,h0⟩;have h1:=ze (Bs.stp h0 (by assumption)))
   |(go_at_call 276;go_split_ands;(with_reducible refine(ld _ _ _).mono ?_);rintro r wX ⟨⟨z,rfl⟩,h0⟩;have h1:=ze (Bs.stp h0 (by assumption))))
 all_goals
  go_split_ands;have h7:=ze (show Bs w _ [(w.heap.size+1,[.int .u64 a,.int .u64 b]),(w.heap.size,s.ls sA sn sk)]from by assumption);go_wp2_with fail;go_ret;exact⟨⟨_,rfl⟩,h7.o.b⟩
theorem JT(a b:Int)(w:l6):Calls prog 176 #[O J a,O J b] w fun e w'=>RI e/\w'=w:=by
 go_in
 go_wp2_with fail;go_ret;exact⟨⟨_,rfl⟩,rfl⟩
theorem Zq(a b:Int)(w:l6):Calls prog 270 #[O J a,O J b] w fun e w'=>RI e/\w'=w:=by
 go_in
 go_wp2_with fail;go_ret;exact⟨⟨_,rfl⟩,rfl⟩
theorem WR(s:Sc)(hs:s.ok)(sA:iX)(sn sk:Nat)(cr:Cr)(A:iX)(n k:Nat)(a b:Int)(w:l6)(p0:0<=cr.pos)(p1:cr.pos<=10000)(ht:Tz w)(hD:5<w.heap.size):
  Calls prog 272 #[s.v sA sn sk,cr.v A n k,zy a b] w fun e w'=>RIB e/\fj w w':=by
 have h4:=ze (Bs.three w (s.ls sA sn sk) (cr.ls A n k) [.int .u64 a,.int .u64 b] 25 265 325);have HA:=ze (fun V=>qQ s hs sA sn sk a b cr.pos cr.dir V p0 p1);have h5:=ze (fun V(hb:fj w V) x y=>YV x y 0 V (ht.below hb hD) (by have:=hb.size;omega));have h6:=ze (fun x y V=>YW x y 128 V);have HE:=ze (fun x y V=>VI x y 0 0 V);clear ht
 go_in
 go_upto_region 1 with(fail);refine j9 (w:=w) (fun W=>Bs w W [(w.heap.size+1+1,[.int .u64 a,.int .u64 b]),(w.heap.size+1,cr.ls A n k),(w.heap.size,s.ls sA sn sk)]) h4.o (by go_grown) (by simp;omega) ?_;rintro W hb ha hc;clear h4 ha hc;have HB:=ze hb;clear hb;obtain⟨⟨s0,s1,s2,s3,s4,s5,s6,s7,s8,s9,s10,s11,s12⟩,-⟩:=(HB.o.cell (q:=w.heap.size) (l:=s.ls sA sn sk) (by simp)).o13;obtain⟨⟨c0,c1,c2,c3,c4,c5⟩,-⟩:=(HB.o.cell (q:=w.heap.size+1) (l:=cr.ls A n k) (by simp)).o6;obtain⟨⟨v0,v1⟩,-⟩:=(HB.o.cell (q:=w.heap.size+1+1) (l:=[.int .u64 a,.int .u64 b]) (by simp)).o2;go_upto_region 2 with(go_at_call 275;refine(HA.o _).mono ?_;rintro r w1 ⟨⟨x0,x1,rfl⟩,h7⟩;have h1:=ze ((HB.o.step h7).new (q:=w1.heap.size) rfl [.int .u64 x0,.int .u64 x1] 325));generalize w1.alloc _=W1 at h1⊢;generalize w1.heap.size=q at h1⊢;clear s0 s1 s2 s3 s4 s5 s6 s7 s8 s9 s10 s11 s12 c0 c1 c2 c3 c4 c5 v0 v1;obtain⟨⟨s0,s1,s2,s3,s4,s5,s6,s7,s8,s9,s10,s11,s12⟩,-⟩:=(h1.o.cell (q:=w.heap.size) (l:=s.ls sA sn sk) (by simp)).o13;obtain⟨⟨c0,c1,c2,c3,c4,c5⟩,-⟩:=(h1.o.cell (q:=w.heap.size+1) (l:=cr.ls A n k) (by simp)).o6;obtain⟨⟨v0,v1⟩,-⟩:=(h1.o.cell (q:=w.heap.size+1+1) (l:=[.int .u64 a,.int .u64 b]) (by simp)).o2;obtain⟨⟨t0,t1⟩,-⟩:=(h1.o.cell (q:=q) (l:=[.int .u64 x0,.int .u64 x1]) (by simp)).o2;have he:=HE.o x0 x1;generalize hx:(x0==0&&x1==0)=X at he;clear hx;by_cases h0:cr.dir=0
 ·go_wp2_with fail;go_ret2;exact⟨RIB.mk _ _,h1.o.b⟩
 ·have e0:(cr.dir==0)=false:=by simpa using h0
  clear h0;cases X
  ·go_wp2_with(first
    |(go_at_call 176;(with_reducible refine(JT _ _ _).mono ?_);rintro r w5 ⟨⟨z,rfl⟩,rfl⟩)
    |(go_at_call 285;(with_reducible refine(h5.o _ h2.o.b _ _).mono ?_);rintro r w4 ⟨⟨m2,b2,rfl⟩,h9⟩;have h3:=ze (h2.o.step h9);clear s0 s1 s2 s3 s4 s5 s6 s7 s8 s9 s10 s11 s12 c0 c1 c2 c3 c4 c5 v0 v1 t0 t1;obtain⟨⟨s0,s1,s2,s3,s4,s5,s6,s7,s8,s9,s10,s11,s12⟩,-⟩:=(h3.o.cell (q:=w.heap.size) (l:=s.ls sA sn sk) (by simp)).o13;obtain⟨⟨c0,c1,c2,c3,c4,c5⟩,-⟩:=(h3.o.cell (q:=w.heap.size+1) (l:=cr.ls A n k) (by simp)).o6;obtain⟨⟨v0,v1⟩,-⟩:=(h3.o.cell (q:=w.heap.size+1+1) (l:=[.int .u64 a,.int .u64 b]) (by simp)).o2)
    |(go_at_call 284;(with_reducible refine(h6.o _ _ _).mono ?_);rintro r w3 ⟨⟨m1,b1,rfl⟩,h8⟩;have h2:=ze (h1.o.step h8);clear s0 s1 s2 s3 s4 s5 s6 s7 s8 s9 s10 s11 s12 c0 c1 c2 c3 c4 c5 v0 v1 t0 t1;obtain⟨⟨s0,s1,s2,s3,s4,s5,s6,s7,s8,s9,s10,s11,s12⟩,-⟩:=(h2.o.cell (q:=w.heap.size) (l:=s.ls sA sn sk) (by simp)).o13;obtain⟨⟨c0,c1,c2,c3,c4,c5⟩,-⟩:=(h2.o.cell (q:=w.heap.size+1) (l:=cr.ls A n k) (by simp)).o6;obtain⟨⟨v0,v1⟩,-⟩:=(h2.o.cell (q:=w.heap.size+1+1) (l:=[.int .u64 a,.int .u64 b]) (by simp)).o2;obtain⟨⟨t0,t1⟩,-⟩:=(h2.o.cell (q:=q) (l:=[.int .u64 x0,.int .u64 x1]) (by simp)).o2))
   ·go_ret2;exact⟨RIB.mk _ _,h3.o.b⟩
   ·go_ret2;exact⟨RIB.mk _ _,h2.o.b⟩
  ·go_wp2_with fail;go_ret2;exact⟨RIB.mk _ _,h1.o.b⟩
theorem WS(s:Sc)(hs:s.ok)(sA:iX)(sn sk:Nat)(cr:Cr)(A:iX)(n k:Nat)(a b fl d:Int)(w:l6)(p0:0<=cr.pos)(p1:cr.pos<=10000)(f0:0<=fl)(f1:fl<=128)(ht:Tz w)(hD:5<w.heap.size):
  Calls prog 249 #[s.v sA sn sk,cr.v A n k,zy a b,O J fl,O J d] w fun e w'=>RI e/\fj w w':=by
 have hu:=JS f0 f1 hs.gap.1 hs.gap.2;have ha:=ze (Bs.three w (s.ls sA sn sk) (cr.ls A n k) [.int .u64 a,.int .u64 b] 25 265 325);have h9:=ze (fun V=>kP fl s.gap (fl*s.gap) V rfl (by omega) (by omega));generalize fl*s.gap=P at*;obtain⟨hq,hw⟩:=hu;have hj:=ze (fun V=>uC s sA sn sk 1 V);have hk:=ze (fun V(hb:fj w V)=>WR s hs sA sn sk cr A n k a b V p0 p1 (ht.below hb hD) (by have:=hb.size;omega));have hg:=ze (fun V=>WP s sA sn sk cr A n k V);have hi:=ze (fun x y V=>Zq x y V);have h6:=ze (fun V=>Kf s hs sA sn sk a b cr.pos P V p0 p1 hq (by omega));have hf:=ze (fun V=>qn cr.pos P V (by omega) (by omega));have h8:=ze (fun V=>qQ s hs sA sn sk a b P cr.dir V hq (by omega));have h7:=ze (fun V=>qQ s hs sA sn sk a b cr.pos cr.dir V p0 p1);have HE:=ze (fun x y V=>VI x y 0 0 V);generalize yw (P-cr.pos)=D at hf;clear ht
 go_in
 go_upto_region 1 with(fail);refine j9 (w:=w) (fun W=>Bs w W [(w.heap.size+1+1,[.int .u64 a,.int .u64 b]),(w.heap.size+1,cr.ls A n k),(w.heap.size,s.ls sA sn sk)]) ha.o (by go_grown) (by simp;omega) ?_;rintro W hb hr hv;clear ha hr hv;have HB:=ze hb;clear hb;have MK:=ze (fun(W:l6)(h:Bs w W [(w.heap.size+1+1,[.int .u64 a,.int .u64 b]),(w.heap.size+1,cr.ls A n k),(w.heap.size,s.ls sA sn sk)])=>(show Bs w W [(w.heap.size+1+1,[.int .u64 a,.int .u64 b]),(w.heap.size+1,cr.ls A n k),(w.heap.size,s.ls sA sn sk)]/\xD (.int .u64 a) (.int .u64 b) W (w.heap.size+1+1)/\cr.K A n k W (w.heap.size+1)/\s.K sA sn sk W (w.heap.size)from⟨h,(h.cell (q:=w.heap.size+1+1) (l:=[.int .u64 a,.int .u64 b]) (by simp)).k2,(h.cell (q:=w.heap.size+1) (l:=cr.ls A n k) (by simp)).k6 rfl,(h.cell (q:=w.heap.size) (l:=s.ls sA sn sk) (by simp)).k13 rfl⟩))
 go_region_held3 (fun W=>Bs w W [(w.heap.size+1+1,[.int .u64 a,.int .u64 b]),(w.heap.size+1,cr.ls A n k),(w.heap.size,s.ls sA sn sk)]/\xD (.int .u64 a) (.int .u64 b) W (w.heap.size+1+1)/\cr.K A n k W (w.heap.size+1)/\s.K sA sn sk W (w.heap.size))
  (first|(with_reducible exact MK.o _ h0.o)|(with_reducible exact MK.o _ HB.o.drew))
  (first
   |(go_at_call 176;go_split_ands;(with_reducible refine(h9.o _).mono ?_);rintro r wX ⟨rfl,rfl⟩;have h0:=ze (show Bs w _ [(w.heap.size+1+1,[.int .u64 a,.int .u64 b]),(w.heap.size+1,cr.ls A n k),(w.heap.size,s.ls sA sn sk)]from by assumption))
   |(go_at_call 271;go_split_ands;(with_reducible refine(hj.o _).mono ?_);rintro r wX ⟨⟨each,rfl⟩,h2⟩;have h0:=ze (Bs.stp h2 (by assumption))))
 all_goals
  go_split_ands;have h1:=ze (show Bs w _ [(w.heap.size+1+1,[.int .u64 a,.int .u64 b]),(w.heap.size+1,cr.ls A n k),(w.heap.size,s.ls sA sn sk)]from by assumption);clear h9 hj HB h0;go_upto_region 3 with(go_at_call 272;(with_reducible refine(hk.o _ h1.o.b).mono ?_);rintro r w2 ⟨⟨at_,on_,rfl⟩,hl⟩;have HB:=ze (h1.o.step hl);clear hl);clear hk h1
  go_region_held3 (fun W=>Bs w W [(w.heap.size+1+1,[.int .u64 a,.int .u64 b]),(w.heap.size+1,cr.ls A n k),(w.heap.size,s.ls sA sn sk)]/\xD (.int .u64 a) (.int .u64 b) W (w.heap.size+1+1)/\cr.K A n k W (w.heap.size+1)/\s.K sA sn sk W (w.heap.size))
   (first|(with_reducible exact MK.o _ h0.o)|(with_reducible exact MK.o _ HB.o.drew))
   (first
    |(go_at_call 273;go_split_ands;(with_reducible refine(hg.o _).mono ?_);rintro r wX ⟨⟨z1,rfl⟩,h2⟩;have h0:=ze (Bs.stp h2 (by assumption)))
    |(go_at_call 270;go_split_ands;(with_reducible refine(hi.o _ _ _).mono ?_);rintro r wX ⟨⟨z2,rfl⟩,rfl⟩;have h0:=ze (show Bs w _ [(w.heap.size+1+1,[.int .u64 a,.int .u64 b]),(w.heap.size+1,cr.ls A n k),(w.heap.size,s.ls sA sn sk)]from by assumption))
    |(go_at_call 274;go_split_ands;(with_reducible refine(h6.o _).mono ?_);rintro r wX ⟨⟨z3,rfl⟩,h2⟩;have h0:=ze (Bs.stp h2 (by assumption))))
  all_goals
   go_split_ands;have h1:=ze (show Bs w _ [(w.heap.size+1+1,[.int .u64 a,.int .u64 b]),(w.heap.size+1,cr.ls A n k),(w.heap.size,s.ls sA sn sk)]from by assumption);clear h0 HB;cases on_
   ·go_wp2_with fail;go_ret;exact⟨⟨_,rfl⟩,h1.o.b⟩
   ·go_upto_region 6 with(fail);have key:P≠cr.pos/\D≠cr.dir\/P≠cr.pos/\D=cr.dir/\d≠cr.dir\/P≠cr.pos/\D=cr.dir/\d=cr.dir\/P=cr.pos/\d≠cr.dir\/P=cr.pos/\d=cr.dir:=by omega
    rcases key with⟨hP,hE⟩|⟨hP,hE,hd⟩|⟨hP,hE,hd⟩|⟨hP,hd⟩|⟨hP,hd⟩
    all_goals
     first|have eP:=Y7 hP|have eP:=Ke hP
     try(first|have eD:=Y7 hE|have eD:=Ke hE)
     try(first|have ed:=Y7 hd|have ed:=Ke hd)
     clear hP
     try clear hE
     try clear hd
     go_quiet((go_at_call 188;exact iN (hf.o _)));go_upto_region 8 with(go_at_call 275;(with_reducible refine(h8.o _).mono ?_);rintro r w4 ⟨⟨x0,x1,rfl⟩,hm⟩;have h3:=ze ((h1.o.drewN _).step hm);have he:=HE.o x0 x1;generalize hX:(x0==0&&x1==0)=X at he;clear hX hm;obtain⟨⟨s0,s1,s2,s3,s4,s5,s6,s7,s8,s9,s10,s11,s12⟩,-⟩:=(h3.o.cell (q:=w.heap.size) (l:=s.ls sA sn sk) (by simp)).o13;obtain⟨⟨c0,c1,c2,c3,c4,c5⟩,-⟩:=(h3.o.cell (q:=w.heap.size+1) (l:=cr.ls A n k) (by simp)).o6;obtain⟨⟨v0,v1⟩,-⟩:=(h3.o.cell (q:=w.heap.size+1+1) (l:=[.int .u64 a,.int .u64 b]) (by simp)).o2);cases X
     all_goals first
      |(go_upto_region 13 with(first|(go_at_call 276;(with_reducible refine(ld _ _ _).mono ?_);rintro r w6 ⟨⟨many,rfl⟩,ho⟩;have h4:=ze (hc.o.step ho);have h5:=ze h4.o;clear ho;obtain⟨⟨s0,s1,s2,s3,s4,s5,s6,s7,s8,s9,s10,s11,s12⟩,-⟩:=(h4.o.cell (q:=w.heap.size) (l:=s.ls sA sn sk) (by simp)).o13;obtain⟨⟨c0,c1,c2,c3,c4,c5⟩,-⟩:=(h4.o.cell (q:=w.heap.size+1) (l:=cr.ls A n k) (by simp)).o6;obtain⟨⟨v0,v1⟩,-⟩:=(h4.o.cell (q:=w.heap.size+1+1) (l:=[.int .u64 a,.int .u64 b]) (by simp)).o2)|(go_at_call 275;(with_reducible refine(h7.o _).mono ?_);rintro r w5 ⟨⟨y0,y1,rfl⟩,hn⟩;have hc:=ze (h3.o.step hn);clear hn)|(go_at_call 274;(with_reducible refine(h6.o _).mono ?_);rintro r w7 ⟨⟨more,rfl⟩,hp⟩;clear h5;have h5:=ze (h4.o.step hp);clear hp));clear h6 h7 h8 HE h3 hc h4;go_region_held3 (fun W=>Bs w W [(w.heap.size+1+1,[.int .u64 a,.int .u64 b]),(w.heap.size+1,cr.ls A n k),(w.heap.size,s.ls sA sn sk)]/\xD (.int .u64 a) (.int .u64 b) W (w.heap.size+1+1)/\cr.K A n k W (w.heap.size+1)/\s.K sA sn sk W (w.heap.size)) (first|(with_reducible exact MK.o _ h0.o)|(with_reducible exact MK.o _ h5.o.drew)) (first|(go_at_call 273;go_split_ands;(with_reducible refine(hg.o _).mono ?_);rintro r wX ⟨⟨z1,rfl⟩,h2⟩;have h0:=ze (Bs.stp h2 (by assumption)))|(go_at_call 270;go_split_ands;(with_reducible refine(hi.o _ _ _).mono ?_);rintro r wX ⟨⟨z2,rfl⟩,rfl⟩;have h0:=ze (show Bs w _ [(w.heap.size+1+1,[.int .u64 a,.int .u64 b]),(w.heap.size+1,cr.ls A n k),(w.heap.size,s.ls sA sn sk)]from by assumption)));all_goals(go_split_ands;have h1:=ze (show Bs w _ [(w.heap.size+1+1,[.int .u64 a,.int .u64 b]),(w.heap.size+1,cr.ls A n k),(w.heap.size,s.ls sA sn sk)]from by assumption);go_wp2_with fail;go_ret;exact⟨⟨_,rfl⟩,h1.o.b⟩))
      |(go_wp2_with fail;go_ret;exact⟨⟨_,rfl⟩,h3.o.b⟩)
abbrev JU(x:Int×Int):iZ:=[.int .u64 x.1,.int .u64 x.2]
structure Sts(w:l6)(B:Nat)(A:iX)(n:Nat)(L:List (Int×Int)):Prop where
 r:Rd w B 2 A n (L.flatMap JU)
 len:L.length=n
theorem Sts.below{w w':l6}{B n:Nat}{A:iX}{L:List (Int×Int)}(h:Sts w B A n L)(hb:Below B w w'):Sts w' B A n L:=⟨h.r.below hb,h.len⟩
theorem Sts.mono{w:l6}{B B' n:Nat}{A:iX}{L:List (Int×Int)}(h:Sts w B A n L)(hB:B<=B'):Sts w B' A n L:=⟨h.r.mono hB,h.len⟩
theorem Sts.at_{w:l6}{B n:Nat}{A:iX}{L:List (Int×Int)}(h:Sts w B A n L){i:Nat}(hi:i<n):
  ∃b off x,A=some ⟨b,off,none⟩/\b<B/\w.cell? ⟨b,off+i*2,none⟩=some (.int .u64 x.1)/\w.cell? ⟨b,off+i*2+1,none⟩=some (.int .u64 (Prod.snd x)):=by
 obtain⟨b,off,hA,hb,hc⟩:=h.r.at_ (by omega);have hg:L[i]?=some (L[i]'(by rw[h.len];exact hi)):=kD _;generalize L[i]'(by rw[h.len];exact hi)=t at hg;have hf:∀ x,(JU x).length=2:=fun _=>rfl
 have g:=fun j(hj:j<2)=>flat_get hf L i j t hg hj
 have h0:=hc (i*2+0) _ ((g 0 (by omega)).trans rfl);exact⟨b,off,t,hA,hb,h0,(XS off (i*2) 1).symm▸hc (i*2+1) _ ((g 1 (by omega)).trans rfl)⟩
theorem WT(s:Sc)(hs:s.ok)(sA:iX)(sn sk:Nat)(A:iX)(n k B:Nat)(L:List Ca)(tA:iX)(tk:Nat)(M:List (Int×Int))(fl d:Int)(w:l6)(h:Cas w B s.gap A n L)(hM:Sts w B tA n M)(hB:B<=w.heap.size)(hn:n<=1000)(f0:0<=fl)(f1:fl<=128)(ht:Tz w)(hD:5<w.heap.size):
  Calls prog 221 #[s.v sA sn sk,.slice A n k,.slice tA n tk,O J fl,O J d] w fun r w'=>fW n r/\fj w w':=by
 have g0:=hs.gap.1;have g1:=hs.gap.2;have hc:=ze (Bs.one w (s.ls sA sn sk) 25);have HL:=ze h;have HM:=ze hM;have HT:=ze (fun V(hb:fj w V)=>ht.below hb hD);clear h ht hM
 go_in
 go_wp2_with fail
 go_loopw [11,17] (fun v i wr=>∃(j:Nat)(l:l8),j<=n/\i=O J j/\l.length=j/\Own wr (w.heap.size+1) 3 1 (fa .i64) v l/\Bs w wr [(w.heap.size,s.ls sA sn sk)]) (fun _ i _=>n-(intOf i).toNat)
 case atStart=>exact⟨0,[],vf _,rfl,rfl,Own.nil _ _ _ _ _,hc.o⟩
 case round=>
  obtain⟨j,l,hj,rfl,hl,h2,hb⟩:=hrel;have HO:=ze h2;have HB:=ze hb;have h4:=ze hl;have hz:w.heap.size<wr.heap.size:=hb.lt (q:=w.heap.size) (l:=s.ls sA sn sk) (by simp);obtain⟨⟨s0,s1,s2,s3,s4,s5,s6,s7,s8,s9,s10,s11,s12⟩,-⟩:=(HB.o.cell (q:=w.heap.size) (l:=s.ls sA sn sk) (by simp)).o13;clear h2 hb hl;by_cases h8:j<n
  ·obtain⟨b,off,x,rfl,hq,hx,h6,ho,c0,c1,c2,c3,c4,c5⟩:=((HL.o.below (HB.o.b.mono hB))).at_ h8;obtain⟨b2,off2,y,rfl,hi,m0,m1⟩:=((HM.o.below (HB.o.b.mono hB))).at_ h8;obtain⟨y0,y1⟩:=y;have i0:(0:Int)<=(j:Int):=by omega
   have i1:(j:Int)<(n:Int):=by omega
   have h5:b<wr.heap.size:=by omega
   have h7:b2<wr.heap.size:=by omega
   have hp:b2<wr.heap.size+1:=by omega
   have HX:=ze hx;have HC:=ze (fun V(hb:fj w V)=>WS s hs sA sn sk x.c x.A x.n x.k y0 y1 fl d V h6.p0 (by have:=h6.p1;omega) f0 f1 (HT.o V hb) (by have:=hb.size;omega));clear hx h6 ho;go_wp2_with(first
    |(go_at_call 249;(with_reducible refine(HC.o _ ((HB.o.b.alloc HB.o.b.size _).alloc (by simp;have:=HB.o.b.size;omega) _)).mono ?_);rintro r w1 ⟨⟨z,rfl⟩,h5⟩;have h0:fj wr w1:=((fh.alloc fi _).alloc (by simp) _).trans (h5.mono (by simp;omega));have he:=ze (HO.o.below h0);have hd:=ze (HB.o.step h0);have hr:=h0.size;have hk:l.length<=1000000000:=(by have:=h4.o;omega);clear h5 h0 s0 s1 s2 s3 s4 s5 s6 s7 s8 s9 s10 s11 s12 c0 c1 c2 c3 c4 c5 m0 m1)
    |(at_builtin;refine push rfl _ _ 51 rfl underlying51 Ints.info rfl (by omega) (by omega) rfl (he.o.alloc _) z ⟨_,0,none⟩ 1 rfl rfl (cell_one_new _ _ _) (by simp[Value.oneCell']) hk (by simp;omega) ?_;intro v' w2 h3 h7))
   go_roundw
   case rel=>exact⟨j+1,l++[z],by omega,by go_num,by rw[kC,h4.o];rfl,h3,(hd.o.step (fh.alloc fi _)).stepB h7 (by omega) (by simp)⟩
   case measure=>simp[intOf];omega
  ·obtain rfl:j=n:=by omega
   obtain⟨A2,c2,rfl,-,h9⟩:=HO.o.ints;have hm:l.length<=1000000:=by have:=h4.o;omega
   have hf:=ze h9;clear h9;go_wp2_with(go_at_call 248;refine(uD A2 l.length c2 _ l _ hf.o hm).mono ?_;rintro r w3 ⟨⟨z,rfl,ha⟩,rfl⟩;have hg:=ze ha;clear ha);go_ret;exact⟨⟨_,rfl,by have h1:=hg.o;rw[h4.o]at h1;exact h1⟩,HB.o.b⟩
def Tr.ok(t:Tr):Prop:=-1<=t.ar/\t.ar<=100000000/\-1<=t.bo/\t.bo<=100000000/\-1<=t.al/\t.al<=100000000
def waits(l:List Tr):l8:=(l.filter dn).map fun t=>t.bo-t.ar
def zj(l:List Tr):l8:=(l.filter dn).map fun t=>t.al-t.bo
theorem uE(A:iX)(n k B:Nat)(l:List Tr)(w:l6)(h:Trs w B A n l)(hB:B<=w.heap.size)(hn:n<=10000000)(hok:∀ t∈l,t.ok):
  Calls prog 13 #[.slice A n k] w fun e w'=>∃ v,e=.returned v/\Own w' w.heap.size 3 1 (fa .i64) v (waits l)/\fj w w':=by
 have he:=h.2;have HD:=ze (J3 A n k B l w h hB hn);have HK:=ze hok;have h6:=ag dn l;clear h hok
 go_in
 go_wp2_with(go_at_call 33;refine HD.o.mono ?_;rintro e w1 ⟨v0,rfl,h0,h3⟩;obtain⟨A1,c1,rfl,-,h7⟩:=Own.trs h0;have HR:=ze h7;have h9:=ze h3;have h8:=h3.size;clear h0 h7 h3);generalize hD:l.filter dn=D at HR h6⊢;generalize hm:D.length=m at HR h6⊢
 go_loopw [3,9] (fun v i wr=>∃(j:Nat),j<=m/\i=O J j/\Own wr w1.heap.size 3 1 (fa .i64) v ((D.take j).map (fun t=>t.bo-t.ar))/\fj w1 wr) (fun _ i _=>m-(intOf i).toNat)
 case atStart=>exact⟨0,vf _,rfl,Own.nil _ _ _ _ _,fh⟩
 case round=>
  obtain⟨j,hj,rfl,h1,hb⟩:=hrel;have HO:=ze h1;have HB:=ze hb;have hz:=hb.size;clear h1 hb;by_cases hc:j<m
  ·obtain⟨b,off,r,rfl,h5,hg,q0,q1,q2,q3,q4,q5,q6⟩:=(HR.o.below HB.o).at_ hc;have i0:(0:Int)<=(j:Int):=by omega
   have i1:(j:Int)<(m:Int):=by omega
   have hr:r∈l:=(iO.1 (show r∈l.filter dn from by rw[hD];exact jx hg)).1;obtain⟨k0,k1,k2,k3,k4,k5⟩:=HK.o r hr;have hd:=ze h5;have HG:=ze hg;have h4:((D.take j).map (fun t=>t.bo-t.ar)).length<=1000000000:=by rw[KS,XT];omega
   clear hg h5 hr;have HX:=ze ((show(D.take (j+1)).map (fun t=>t.bo-t.ar)=(D.take j).map (fun t=>t.bo-t.ar)++[(fun t=>t.bo-t.ar) r]from by rw[Vn,HG.o,XW];simp));go_wp2_with(at_builtin;refine push rfl _ _ 51 rfl underlying51 Ints.info rfl (by omega) (by omega) rfl ((HO.o.alloc _).alloc _) (r.bo-r.ar) ⟨_,0,none⟩ 1 rfl rfl (zr _ _ [O J (r.bo-r.ar)] _ (by simp)) (by simp[Value.oneCell']) h4 (by simp;omega) ?_;intro v' w2 h2 ha);go_roundw
   case rel=>exact⟨j+1,by omega,by go_num,by rw[HX.o];exact h2,((HB.o.alloc hz _).alloc (by simp;omega) _).trans ha⟩
   case measure=>simp[intOf];omega
  ·obtain rfl:j=m:=by omega
   go_wp2_with fail;go_ret;exact⟨_,rfl,by have:=HO.o;rw[<-hm,UZ]at this;unfold waits;rw[hD];exact this.small h8,h9.o.trans (HB.o.mono h8)⟩
theorem vx(A:iX)(n k B:Nat)(l:List Tr)(w:l6)(h:Trs w B A n l)(hB:B<=w.heap.size)(hn:n<=10000000)(hok:∀ t∈l,t.ok):
  Calls prog 14 #[.slice A n k] w fun e w'=>∃ v,e=.returned v/\Own w' w.heap.size 3 1 (fa .i64) v (zj l)/\fj w w':=by
 have he:=h.2;have HD:=ze (J3 A n k B l w h hB hn);have HK:=ze hok;have h6:=ag dn l;clear h hok
 go_in
 go_wp2_with(go_at_call 33;refine HD.o.mono ?_;rintro e w1 ⟨v0,rfl,h0,h3⟩;obtain⟨A1,c1,rfl,-,h7⟩:=Own.trs h0;have HR:=ze h7;have h9:=ze h3;have h8:=h3.size;clear h0 h7 h3);generalize hD:l.filter dn=D at HR h6⊢;generalize hm:D.length=m at HR h6⊢
 go_loopw [3,9] (fun v i wr=>∃(j:Nat),j<=m/\i=O J j/\Own wr w1.heap.size 3 1 (fa .i64) v ((D.take j).map (fun t=>t.al-t.bo))/\fj w1 wr) (fun _ i _=>m-(intOf i).toNat)
 case atStart=>exact⟨0,vf _,rfl,Own.nil _ _ _ _ _,fh⟩
 case round=>
  obtain⟨j,hj,rfl,h1,hb⟩:=hrel;have HO:=ze h1;have HB:=ze hb;have hz:=hb.size;clear h1 hb;by_cases hc:j<m
  ·obtain⟨b,off,r,rfl,h5,hg,q0,q1,q2,q3,q4,q5,q6⟩:=(HR.o.below HB.o).at_ hc;have i0:(0:Int)<=(j:Int):=by omega
   have i1:(j:Int)<(m:Int):=by omega
   have hr:r∈l:=(iO.1 (show r∈l.filter dn from by rw[hD];exact jx hg)).1;obtain⟨k0,k1,k2,k3,k4,k5⟩:=HK.o r hr;have hd:=ze h5;have HG:=ze hg;have h4:((D.take j).map (fun t=>t.al-t.bo)).length<=1000000000:=by rw[KS,XT];omega
   clear hg h5 hr;have HX:=ze ((show(D.take (j+1)).map (fun t=>t.al-t.bo)=(D.take j).map (fun t=>t.al-t.bo)++[(fun t=>t.al-t.bo) r]from by rw[Vn,HG.o,XW];simp));go_wp2_with(at_builtin;refine push rfl _ _ 51 rfl underlying51 Ints.info rfl (by omega) (by omega) rfl ((HO.o.alloc _).alloc _) (r.al-r.bo) ⟨_,0,none⟩ 1 rfl rfl (zr _ _ [O J (r.al-r.bo)] _ (by simp)) (by simp[Value.oneCell']) h4 (by simp;omega) ?_;intro v' w2 h2 ha);go_roundw
   case rel=>exact⟨j+1,by omega,by go_num,by rw[HX.o];exact h2,((HB.o.alloc hz _).alloc (by simp;omega) _).trans ha⟩
   case measure=>simp[intOf];omega
  ·obtain rfl:j=m:=by omega
   go_wp2_with fail;go_ret;exact⟨_,rfl,by have:=HO.o;rw[<-hm,UZ]at this;unfold zj;rw[hD];exact this.small h8,h9.o.trans (HB.o.mono h8)⟩
theorem yB(A:iX)(n k B:Nat)(l:List Tr)(w:l6)(h:Trs w B A n l)(hB:B<=w.heap.size)(hn:n<=10000000):
  Calls prog 11 #[.slice A n k] w fun e w'=>(∃a b c:Int,e=.returned (.tuple #[O J a,O J b,O J c])/\0<=a/\a<=n/\0<=b/\b<=n/\0<=c/\c<=n/\((∀t∈l,0<=t.al)->a=n))/\fj w w':=by
 have HR:=ze h;have HN:=ze (Bx.new w [O J 0,O J 0,O J 0] 85);have h9:=ze (show fj w (w.alloc (.cells #[O J 0,O J 0,O J 0] 85))from by go_grown);clear h
 go_in
 go_wp2_with fail
 go_loopw [10] (fun i wr=>∃(j:Nat)(a b c:Int),j<=n/\i=O J j/\Bx wr w.heap.size [O J a,O J b,O J c]/\fj w wr/\0<=a/\a<=j/\0<=b/\b<=j/\0<=c/\c<=j/\((∀t∈l,0<=t.al)->c=j)) (fun i _=>n-(intOf i).toNat)
 case atStart=>exact⟨0,0,0,0,vf _,rfl,HN.o,h9.o,by omega,by omega,by omega,by omega,by omega,by omega,fun _=>rfl⟩
 case round=>
  obtain⟨j,a,b,c,hj,rfl,h6,hb,he,hf,hi,h0,hk,hl,hall⟩:=hrel;have h4:=ze hall;clear hall;have HX:=ze h6;have HB:=ze hb;have hz:=hb.size;have h7:=h6.lt (by simp);obtain⟨⟨d0,d1,d2⟩,f0,f1,f2⟩:=h6.o3;clear h6 hb;by_cases hc:j<n
  ·obtain⟨b',off,r,rfl,h8,hg,q0,q1,q2,q3,q4,q5,q6⟩:=(HR.o.below (HB.o.mono hB)).at_ hc;have i0:(0:Int)<=(j:Int):=by omega
   have i1:(j:Int)<(n:Int):=by omega
   have hd:=ze h8;have HM:=ze (fun ha:(∀t∈l,0<=t.al)=>(show r.ph=2 from by unfold Tr.ph;rw[if_pos (ha r (jx hg))]));clear hg h8;have hp:r.ph=0\/r.ph=1\/r.ph=2:=by
    unfold Tr.ph;split
    ·simp
    ·split<;>simp
   have HT:=ze (fun V=>JQ r V);rcases hp with hp|hp|hp
   ·rw[hp]at HT;clear d0 d1 d2 f0 f1 f2;go_wp2_with(go_at_call 32;refine(HT.o _).mono ?_;rintro e w1 ⟨rfl,h0⟩;have h3:=ze (HX.o.below ((fh.alloc fi _).trans (h0.mono (by simp))) h7);have h5:=ze (show fj w w1 from(HB.o.alloc hz _).trans (h0.mono (by simp;omega)));obtain⟨⟨d0,d1,d2⟩,f0,f1,f2⟩:=h3.o.o3;clear h0);go_roundw
    case rel=>exact⟨j+1,a+1,b,c,by omega,by go_num,by have:=h3.o.set 0 (O J (a+1));simpa using this,h5.o.setCell (p:=⟨w.heap.size,0,none⟩) fi _,by omega,by omega,by omega,by omega,by omega,by omega,fun ha=>by have h1:=HM.o ha;omega⟩
    case measure=>simp[intOf];omega
   ·rw[hp]at HT;clear d0 d1 d2 f0 f1 f2;go_wp2_with(go_at_call 32;refine(HT.o _).mono ?_;rintro e w1 ⟨rfl,h0⟩;have h3:=ze (HX.o.below ((fh.alloc fi _).trans (h0.mono (by simp))) h7);have h5:=ze (show fj w w1 from(HB.o.alloc hz _).trans (h0.mono (by simp;omega)));obtain⟨⟨d0,d1,d2⟩,f0,f1,f2⟩:=h3.o.o3;clear h0);go_roundw
    case rel=>exact⟨j+1,a,b+1,c,by omega,by go_num,by have:=h3.o.set 1 (O J (b+1));simpa using this,h5.o.setCell (p:=⟨w.heap.size,1,none⟩) fi _,by omega,by omega,by omega,by omega,by omega,by omega,fun ha=>by have h1:=HM.o ha;omega⟩
    case measure=>simp[intOf];omega
   ·rw[hp]at HT;clear d0 d1 d2 f0 f1 f2;go_wp2_with(go_at_call 32;refine(HT.o _).mono ?_;rintro e w1 ⟨rfl,h0⟩;have h3:=ze (HX.o.below ((fh.alloc fi _).trans (h0.mono (by simp))) h7);have h5:=ze (show fj w w1 from(HB.o.alloc hz _).trans (h0.mono (by simp;omega)));obtain⟨⟨d0,d1,d2⟩,f0,f1,f2⟩:=h3.o.o3;clear h0);go_roundw
    case rel=>exact⟨j+1,a,b,c+1,by omega,by go_num,by have:=h3.o.set 2 (O J (c+1));simpa using this,h5.o.setCell (p:=⟨w.heap.size,2,none⟩) fi _,by omega,by omega,by omega,by omega,by omega,by omega,fun ha=>by have h1:=HM.o ha;have h2:=h4.o ha;omega⟩
    case measure=>simp[intOf];omega
  ·obtain rfl:j=n:=by omega
   go_wp2_with fail;go_quiet(fail);go_wp2_with fail;go_ret3;exact⟨⟨c,b,a,rfl,by omega,by omega,by omega,by omega,by omega,by omega,h4.o⟩,zg HB.o _⟩
theorem Kh(A:iX)(n k B:Nat)(l:List Tr)(u:Int)(w:l6)(h:Trs w B A n l)(hB:B<=w.heap.size)(hn:n<=1000000)(hok:∀ t∈l,t.ok)(hu0:0<=u)(hu1:u<=100000000):
  Calls prog 198 #[.slice A n k,O J u] w fun e w'=>(∃a:Int,e=.returned (O J a)/\0<=a/\a<=n*u)/\fj w w':=by
 have HR:=ze h;have HK:=ze hok;have h7:=h.2;clear h hok
 go_in
 go_wp2_with fail
 go_loopw [5,11] (fun s i wr=>∃(j:Nat)(m:Int),j<=n/\i=O J j/\s=O J m/\0<=m/\m<=j*u/\fj w wr) (fun _ i _=>n-(intOf i).toNat)
 case atStart=>exact⟨0,0,vf _,rfl,rfl,by omega,by simp,fh⟩
 case round=>
  obtain⟨j,m,hj,rfl,rfl,h3,h4,hb⟩:=hrel;have HB:=ze hb;have hz:=hb.size;clear hb;have h1:((j:Int)+1)*u=j*u+u:=by rw[Vo,Hy]
  have h6:(j:Int)*u<=1000000*100000000:=yO (by omega) hu1 hu0 (by omega);by_cases h2:j<n
  ·obtain⟨b,off,r,rfl,h0,hg,q0,q1,q2,q3,q4,q5,q6⟩:=(HR.o.below (HB.o.mono hB)).at_ h2;have i0:(0:Int)<=(j:Int):=by omega
   have i1:(j:Int)<(n:Int):=by omega
   obtain⟨k0,k1,k2,k3,k4,k5⟩:=HK.o r (jx hg);have h5:=ze h0;clear hg h0;go_wp2_with fail
   all_goals go_roundw
   all_goals first
    |exact⟨j+1,_,by omega,by go_num,rfl,by omega,by push_cast;rw[h1];omega,HB.o.alloc hz _⟩
    |(simp[intOf];omega)
  ·obtain rfl:j=n:=by omega
   go_wp2_with fail;go_ret;exact⟨⟨_,rfl,h3,h4⟩,HB.o⟩
structure StopP(a b c d e f fl dir:Int):Prop where
 z:dir=0->zF c d e f fl 1=false/\zF c d e f fl (-1)=false
 g:dir≠0->zF c d e f fl dir=false/\(zF c d e f fl (-dir)=true->bynd a b fl dir=true)
theorem StopP.next{a b c d e f fl dir:Int}(h:StopP a b c d e f fl dir)(hd: -1<=dir)(hd1:dir<=1)(h0:qD a b c d e f fl dir≠0):
  (qD a b c d e f fl dir=1\/qD a b c d e f fl dir=-1)/\bynd a b fl (qD a b c d e f fl dir)=true:=by
 have hx:dir=0\/dir≠0:=by omega
 rcases hx with hx|hx
 ·obtain⟨h1,h2⟩:=h.z hx;subst hx;have he:qD a b c d e f fl 0=if bynd a b fl 1=true then 1 else if bynd a b fl (-1)=true then -1 else 0:=by unfold qD;simp[h1,h2]
  rw[he]at h0⊢;by_cases h3:bynd a b fl 1=true
  ·rw[if_pos h3]at*;exact⟨.inl rfl,h3⟩
  ·rw[if_neg h3]at*;by_cases h4:bynd a b fl (-1)=true
   ·rw[if_pos h4]at*;exact⟨.inr rfl,h4⟩
   ·rw[if_neg h4]at*;exact absurd rfl h0
 ·obtain⟨h1,h2⟩:=h.g hx;have he:qD a b c d e f fl dir=if bynd a b fl dir=true then dir else if zF c d e f fl (-dir)=true\/bynd a b fl (-dir)=true then -dir else 0:=by unfold qD;simp[h1,hx]
  rw[he]at h0⊢;by_cases h3:bynd a b fl dir=true
  ·rw[if_pos h3]at*;exact⟨by omega,h3⟩
  ·rw[if_neg h3]at*;by_cases h4:zF c d e f fl (-dir)=true\/bynd a b fl (-dir)=true
   ·rw[if_pos h4]at*;rcases h4 with h4|h4
    ·exact absurd (h2 h4) h3
    ·exact⟨by omega,h4⟩
   ·rw[if_neg h4]at*;exact absurd rfl h0
def yo(a b c d e f fl dir:Int)(l:List Rid):Bool:=
 kL (g9 l) (ge l) fl||(if dir=0 then zF c d e f fl 1||zF c d e f fl (-1)else zF c d e f fl dir||(zF c d e f fl (-dir)&&!bynd a b fl dir))
theorem fO{a b c d e f fl dir:Int}{l:List Rid}(h:yo a b c d e f fl dir l=false):StopP a b c d e f fl dir:=by
 unfold yo at h;rw[Bool.or_eq_false_iff]at h;refine⟨fun h0=>?_,fun h0=>?_⟩
 ·have h2:=h.2;rw[if_pos h0,Bool.or_eq_false_iff]at h2;exact h2
 ·have h2:=h.2;rw[if_neg h0,Bool.or_eq_false_iff]at h2;refine⟨h2.1,fun h3=>?_⟩;have h4:=h2.2;rw[h3]at h4;simpa using h4
theorem Ur(a b c d e f fl:Int)(cr:Cr)(A:iX)(n k B:Nat)(l:List Rid)(w:l6)(h:Rds w B A n l)(hB:B<=w.heap.size)(hn:n<=1000000)(hf: -1000<=fl)(hf1:fl<=1000000)(hd: -1<=cr.dir)(hd1:cr.dir<=1):
  Calls prog 230 #[qI a b c d e f,cr.v A n k,O J fl] w (fk (.bool (yo a b c d e f fl cr.dir l)) w):=by
 have HR:=ze h;have h7:=ze (show fj w ((w.alloc (.cells (vF a b c d e f) 366)).alloc (.cells (cr.cells A n k) 265))from by go_grown);have h8:=ze (Bx.two w [.int .u64 a,.int .u64 b,.int .u64 c,.int .u64 d,.int .u64 e,.int .u64 f] [O J cr.pos,O J cr.dir,O J cr.mode,O J cr.left,.bool cr.wt,.slice A n k] 366 265 (by simp));have HC:=ze (fun(D:Int)(V:l6)=>qP a b c d e f fl D V);have hi:=ze (fun(D:Int)(V:l6)=>jT a b c d e f fl D V hf hf1);have hc:=ze (fun(V:l6)(hb:fj w V)=>vM cr A n k B l V (h.below (hb.mono hB)) (by have:=hb.size;omega) hn);clear h
 go_in
 go_upto_region 1 with(fail)
 go_upto_if 7 with(first
  |(go_at_call 257;refine(ki (g9 l) (ge l) fl _).mono ?_;rintro r w2 ⟨rfl,h6⟩;have he:=ze (ha.o.trans (h6.mono ha.o.size));have S2':=ze (S1.o.below h6 (by omega));have C2':=ze (C1.o.below h6 (by omega));have hm:=h6.size;clear h6)
  |(go_at_call 251;refine(hc.o _ h7.o).mono ?_;rintro r w1 ⟨rfl,h5⟩;have ha:=ze (h7.o.trans (h5.mono (by simp;omega)));have S1:=ze (h8.o.1.below h5 (by simp;omega));have C1:=ze (h8.o.2.below h5 (by simp));have hl:w.heap.size+1<w1.heap.size:=(by have:=h5.size;simp at this;omega);clear h5))
 have HW:=ze he.o;have HS:=ze S2'.o;have h9:=ze C2'.o;have hz:w.heap.size+1<w2.heap.size:=by omega
 obtain⟨⟨a0,a1,a2,a3,a4,a5⟩,-⟩:=HS.o.o6;obtain⟨⟨d0,d1,d2,d3,d4,d5⟩,-⟩:=h9.o.o6;clear ha S1 C1 he S2' C2' h7 h8 hc hl hm;rcases yd (kL (g9 l) (ge l) fl)with hx|hx
 ·rw[hx];go_wp2_with fail;go_ret;exact⟨j8 (by unfold yo;simp[hx]),HW.o⟩
 ·rw[hx];have h4:=ze hx;clear hx;by_cases h0:cr.dir=0
  ·rw[h0]at d1;rcases yd (zF c d e f fl 1)with hy|hy
   ·go_wp2_with(go_at_call 255;refine(HC.o 1 _).mono ?_;rintro r w3 ⟨rfl,h1⟩;rw[hy]);go_ret;exact⟨j8 (by unfold yo;simp[h4.o,h0,hy]),HW.o.trans (h1.mono HW.o.size)⟩
   ·go_wp2_with(first
     |(go_at_call 255;with_reducible refine(HC.o (-1) _).mono ?_;rintro r w4 ⟨rfl,h3⟩)
     |(go_at_call 255;with_reducible refine(HC.o 1 _).mono ?_;rintro r w3 ⟨rfl,h1⟩;rw[hy];have h2:=ze (HW.o.trans (h1.mono HW.o.size));have S3:=ze (HS.o.below h1 (by omega));clear h1 a0 a1 a2 a3 a4 a5;obtain⟨⟨a0,a1,a2,a3,a4,a5⟩,-⟩:=S3.o.o6))
    go_ret;exact⟨j8 (by unfold yo;simp[h4.o,h0,hy]),h2.o.trans (h3.mono h2.o.size)⟩
  ·rcases yd (zF c d e f fl cr.dir)with hy|hy
   ·go_wp2_with(go_at_call 255;refine(HC.o cr.dir _).mono ?_;rintro r w3 ⟨rfl,h1⟩;rw[hy]);go_ret;exact⟨j8 (by unfold yo;simp[h4.o,h0,hy]),HW.o.trans (h1.mono HW.o.size)⟩
   ·have hk:cr.dir≠-cr.dir:=by omega
    rcases yd (zF c d e f fl (-cr.dir))with hv|hv
    ·go_wp2_with(first
      |(go_at_call 256;with_reducible refine(hi.o cr.dir _).mono ?_;rintro r w5 ⟨rfl,hj⟩)
      |(go_at_call 255;with_reducible refine(HC.o (-cr.dir) _).mono ?_;rintro r w4 ⟨rfl,h3⟩;rw[hv];have hg:=ze (h2.o.trans (h3.mono h2.o.size));have S4:=ze (S3.o.below h3 (by omega));have C4:=ze (C3.o.below h3 (by omega));clear h3 a0 a1 a2 a3 a4 a5 d0 d1 d2 d3 d4 d5;obtain⟨⟨a0,a1,a2,a3,a4,a5⟩,-⟩:=S4.o.o6;obtain⟨⟨d0,d1,d2,d3,d4,d5⟩,-⟩:=C4.o.o6)
      |(go_at_call 255;with_reducible refine(HC.o cr.dir _).mono ?_;rintro r w3 ⟨rfl,h1⟩;rw[hy];have h2:=ze (HW.o.trans (h1.mono HW.o.size));have S3:=ze (HS.o.below h1 (by omega));have C3:=ze (h9.o.below h1 (by omega));have ho:=h1.size;clear h1 a0 a1 a2 a3 a4 a5 d0 d1 d2 d3 d4 d5;obtain⟨⟨a0,a1,a2,a3,a4,a5⟩,-⟩:=S3.o.o6;obtain⟨⟨d0,d1,d2,d3,d4,d5⟩,-⟩:=C3.o.o6))
     go_ret;exact⟨j8 (by unfold yo;simp[h4.o,h0,hy,hv]),hg.o.trans (hj.mono hg.o.size)⟩
    ·go_wp2_with(first
      |(go_at_call 255;with_reducible refine(HC.o (-cr.dir) _).mono ?_;rintro r w4 ⟨rfl,h3⟩;rw[hv])
      |(go_at_call 255;with_reducible refine(HC.o cr.dir _).mono ?_;rintro r w3 ⟨rfl,h1⟩;rw[hy];have h2:=ze (HW.o.trans (h1.mono HW.o.size));have S3:=ze (HS.o.below h1 (by omega));have C3:=ze (h9.o.below h1 (by omega));have ho:=h1.size;clear h1 a0 a1 a2 a3 a4 a5 d0 d1 d2 d3 d4 d5;obtain⟨⟨a0,a1,a2,a3,a4,a5⟩,-⟩:=S3.o.o6;obtain⟨⟨d0,d1,d2,d3,d4,d5⟩,-⟩:=C3.o.o6))
     go_ret;exact⟨j8 (by unfold yo;simp[h4.o,h0,hy,hv]),h2.o.trans (h3.mono h2.o.size)⟩
def gb(a:Int)(k:Nat):Bool:=(BitVec.ofInt 64 a).getLsbD k
def gJ(a:Int):Prop:=0<=a/\a<18446744073709551616
theorem fI(a:Int):IntKind.u64.wrap a=((BitVec.ofInt 64 a).toNat:Int):=by
 rw[iT]
 show a%18446744073709551616=((a%18446744073709551616).toNat:Int)
 omega
theorem xx(x:BitVec 64):BitVec.ofInt 64 (x.toNat:Int)=x:=by simp
theorem ep(x:BitVec 64):gJ (x.toNat:Int):=⟨by omega,by have:=x.isLt;omega⟩
theorem gh(a:Int)(k:Nat):gb (IntKind.u64.wrap a) k=gb a k:=by unfold gb;rw[fI,xx]
theorem fJ(a b:Int):bits .or .u64 a b=((BitVec.ofInt 64 a|||BitVec.ofInt 64 b).toNat:Int):=by
 show IntKind.u64.wrap ((BitVec.ofInt 64 a|||BitVec.ofInt 64 b).toNat:Int)=_
 rw[fI,xx]
theorem fK(a b:Int):bits .and .u64 a b=((BitVec.ofInt 64 a&&&BitVec.ofInt 64 b).toNat:Int):=by
 show IntKind.u64.wrap ((BitVec.ofInt 64 a&&&BitVec.ofInt 64 b).toNat:Int)=_
 rw[fI,xx]
theorem fS(a b:Int):bits .andNot .u64 a b=((BitVec.ofInt 64 a&&& ~~~BitVec.ofInt 64 b).toNat:Int):=by
 show IntKind.u64.wrap ((BitVec.ofInt 64 a&&& ~~~BitVec.ofInt 64 b).toNat:Int)=_
 rw[fI,xx]
theorem gK(a b:Int)(k:Nat):gb (bits .or .u64 a b) k=(gb a k||gb b k):=by unfold gb;rw[fJ,xx,BitVec.getLsbD_or]
theorem gL(a b:Int)(k:Nat):gb (bits .and .u64 a b) k=(gb a k&&gb b k):=by unfold gb;rw[fK,xx,BitVec.getLsbD_and]
theorem gM(a b:Int)(k:Nat)(hk:k<64):gb (bits .andNot .u64 a b) k=(gb a k&&!gb b k):=by
 unfold gb;rw[fS,xx,BitVec.getLsbD_and,BitVec.getLsbD_not];simp[hk]
theorem fQ(k:Nat):gb 0 k=false:=by unfold gb;simp
theorem gi(a:Int)(k:Nat):gb a k=(IntKind.u64.wrap a).toNat.testBit k:=by unfold gb;rw[fI,XX,BitVec.testBit_toNat]
theorem gN{a:Int}(h:gJ a)(h0:∀ k,k<64->gb a k=false):a=0:=by
 have hx:BitVec.ofInt 64 a=0#64:=by
  apply BitVec.eq_of_getLsbD_eq;intro i hi;rw[show(BitVec.ofInt 64 a).getLsbD i=gb a i from rfl,h0 i hi];simp
 have hy:=congrArg BitVec.toNat hx;rw[iT]at hy;obtain⟨h1,h2⟩:=h;simp at hy;omega
theorem gO(m k:Nat)(hm:m<64):gb (2^m) k=decide (k=m):=by
 rw[gi];have e:IntKind.u64.wrap (2^m)=((2^m:Nat):Int):=by
  have h1:(2:Nat)^m<2^64:=Nat.pow_lt_pow_right (by omega) hm
  show((2:Int)^m)%18446744073709551616=_
  rw[show((2:Int)^m)=((2^m:Nat):Int)from by simp];generalize 2^m=t at h1⊢;omega
 rw[e,XX,Nat.testBit_two_pow];exact decide_eq_decide.2 ⟨fun h=>h.symm,fun h=>h.symm⟩
theorem gP(m k:Nat)(hm:m<64):gb (az (m:Int)) k=decide (k<m):=by
 unfold az;rw[gh,gi];have h1:(2:Nat)^m<2^64:=Nat.pow_lt_pow_right (by omega) hm;have h2:0<(2:Nat)^m:=Nat.pow_pos (by omega);have e:IntKind.u64.wrap (2^((m:Int)).toNat)=((2^m:Nat):Int):=by
  rw[XX]
  show((2:Int)^m)%18446744073709551616=_
  rw[show((2:Int)^m)=((2^m:Nat):Int)from by simp];omega
 have e2:IntKind.u64.wrap (((2^m:Nat):Int)-1)=((2^m-1:Nat):Int):=by
  show(((2^m:Nat):Int)-1)%18446744073709551616=_
  omega
 rw[e,e2,XX,Nat.testBit_two_pow_sub_one]
theorem fG{a b:Int}{n:Nat}(hn:n<128):kL a b (n:Int)=gb (if n<64 then a else b) (n%64):=by
 unfold kL;rw[if_pos ⟨by omega,by omega⟩];have e1:(if(n:Int)<64 then a else b)=(if n<64 then a else b):=by
  by_cases h:n<64
  ·rw[if_pos h,if_pos (by omega)]
  ·rw[if_neg h,if_neg (by omega)]
 have e2:((n:Int)%64).toNat=n%64:=by omega
 rw[e1,e2];generalize(if n<64 then a else b)=x;generalize hk:n%64=k;have h3:k<64:=by omega
 rw[fK];have hl:(BitVec.ofInt 64 (x/2^k)&&&BitVec.ofInt 64 1).toNat=(BitVec.ofInt 64 (x/2^k)).toNat%2:=by
  rw[BitVec.toNat_and]
  show(BitVec.ofInt 64 (x/2^k)).toNat&&&1=_
  rw[Nat.and_one_is_mod]
 rw[hl,iT,gi,Nat.testBit_eq_decide_div_mod_eq];have hp:(0:Int)<2^k:=Int.pow_pos (by omega);have hw:IntKind.u64.wrap x=x%18446744073709551616:=rfl;rw[hw];obtain⟨q,r,hq,h0,h1⟩:∃ q r:Int,x=18446744073709551616*q+r/\0<=r/\r<18446744073709551616:=⟨x/18446744073709551616,x%18446744073709551616,by omega,by omega,by omega⟩;have h2:(18446744073709551616:Int)=2*2^(63-k)*2^k:=by
  rw[show(2:Int)*2^(63-k)*2^k=2^(1+(63-k)+k)from by rw[Int.pow_add,Int.pow_add];simp,show 1+(63-k)+k=64 from by omega];rfl
 have hd:x/2^k=r/2^k+2*(2^(63-k)*q):=by
  rw[show x=r+2*(2^(63-k)*q)*2^k from by rw[hq,h2,Int.add_comm];congr 1;simp only[cX,Int.mul_left_comm],Int.add_mul_ediv_right _ _ (by omega)]
 have hr:x%18446744073709551616=r:=by rw[hq,Int.add_comm,Int.add_mul_emod_self_left];exact Int.emod_eq_of_lt h0 h1
 obtain⟨R,rfl⟩:=QM h0;rw[hr,hd];have hc:((R:Int)/2^k)=((R/2^k:Nat):Int):=by simp
 rw[hc,XX];generalize R/2^k=m;generalize 2^(63-k)*q=t;have e3:(((m:Int)+2*t)%((2^64:Nat):Int)).toNat%2=m%2:=by
  show(((m:Int)+2*t)%18446744073709551616).toNat%2=m%2
  omega
 rw[e3];rcases Nat.mod_two_eq_zero_or_one m with h|h<;>rw[h]<;>decide
structure SetOf(a b:Int)(P:Int->Prop):Prop where
 a0:gJ a
 b0:gJ b
 e:∀ n:Nat,n<128->(kL a b (n:Int)=true↔P n)
theorem SetOf.congr{a b:Int}{P Q:Int->Prop}(h:SetOf a b P)(e:∀ n:Nat,n<128->(P n↔Q n)):SetOf a b Q:=⟨h.a0,h.b0,fun n hn=>(h.e n hn).trans (e n hn)⟩
theorem SetOf.nil:SetOf 0 0 (fun _=>False):=⟨⟨by omega,by omega⟩,⟨by omega,by omega⟩,fun n hn=>by
 rw[fG hn];by_cases h:n<64<;>simp[h,fQ]⟩
theorem SetOf.or{a b c d:Int}{P Q:Int->Prop}(h:SetOf a b P)(h':SetOf c d Q):SetOf (bits .or .u64 a c) (bits .or .u64 b d) (fun f=>P f\/Q f):=by
 refine⟨by rw[fJ];exact ep _,by rw[fJ];exact ep _,fun n hn=>?_⟩;have e1:=h.e n hn;have e2:=h'.e n hn;rw[fG hn]at e1 e2⊢;rw[<-e1,<-e2];by_cases hl:n<64<;>simp[hl,gK]
theorem SetOf.with_{a b:Int}{P:Int->Prop}(h:SetOf a b P)(m:Int):SetOf (fE a m) (fF b m) (fun f=>P f\/m=f):=by
 unfold fE fF;refine⟨?_,?_,fun n hn=>?_⟩
 ·split
  ·rw[fJ];exact ep _
  ·exact h.a0
 ·split
  ·rw[fJ];exact ep _
  ·exact h.b0
 ·have e1:=h.e n hn;rw[fG hn]at e1⊢;rw[<-e1];have hk:(m%64).toNat<64:=by omega
  by_cases hl:n<64
  ·by_cases hm:0<=m/\m<64
   ·rw[if_pos hm];simp only[hl,if_true,gK,gh,gO _ _ hk,Bool.or_eq_true,decide_eq_true_eq];exact or_congr Iff.rfl ⟨fun e=>by omega,fun e=>by omega⟩
   ·rw[if_neg hm];simp only[hl,if_true];exact⟨Or.inl,fun e=>e.resolve_right (by omega)⟩
  ·by_cases hm:64<=m/\m<128
   ·rw[if_pos hm];simp only[hl,if_false,gK,gh,gO _ _ hk,Bool.or_eq_true,decide_eq_true_eq];exact or_congr Iff.rfl ⟨fun e=>by omega,fun e=>by omega⟩
   ·rw[if_neg hm];simp only[hl,if_false];exact⟨Or.inl,fun e=>e.resolve_right (by omega)⟩
theorem gx(a b:Int)(f n:Nat)(hn:n<128)(hf:f<=128):gb (if n<64 then jY a f else jZ b f) (n%64)=(gb (if n<64 then a else b) (n%64)&&decide (n<f)):=by
 unfold jY jZ;by_cases hl:n<64
 ·rw[if_pos hl,if_pos hl];by_cases h0:f=0
  ·subst h0;simp[fQ]
  ·rw[if_neg (by omega)];by_cases h1:f<64
   ·rw[if_pos (by omega),gL,gP _ _ h1,show n%64=n from by omega]
   ·rw[if_neg (by omega)];simp[show n<f from by omega]
 ·rw[if_neg hl,if_neg hl];by_cases h1:f<64
  ·rw[if_pos (by omega),fQ];simp[show¬n<f from by omega]
  ·rw[if_neg (by omega)];by_cases h2:f<128
   ·rw[if_pos (by omega),gL,show((f:Int)%64)=((f%64:Nat):Int)from by omega,gP _ _ (by omega)]
    congr 1
    exact decide_eq_decide.2 ⟨fun e=>by omega,fun e=>by omega⟩
   ·rw[if_neg (by omega)];simp[show n<f from by omega]
theorem gQ(a b:Int)(f n:Nat)(hn:n<128)(hf:f<=128):gb (if n<64 then qN a f else qO b f) (n%64)=(gb (if n<64 then a else b) (n%64)&&decide (f<=n)):=by
 have h:=gx a b f n hn hf;have hd:decide (f<=n)=!decide (n<f):=by by_cases e:n<f<;>simp[e]<;>omega
 unfold qN qO;by_cases hl:n<64
 ·rw[if_pos hl,if_pos hl]at h;rw[if_pos hl,if_pos hl,gM _ _ _ (by omega),h,hd];cases gb a (n%64)<;>simp
 ·rw[if_neg hl,if_neg hl]at h;rw[if_neg hl,if_neg hl,gM _ _ _ (by omega),h,hd];cases gb b (n%64)<;>simp
theorem gR{a b:Int}(ha:gJ a)(hb:gJ b)(f:Int):gJ (jY a f)/\gJ (jZ b f):=by
 unfold jY jZ;constructor
 ·split
  ·exact⟨by omega,by omega⟩
  ·split
   ·rw[fK];exact ep _
   ·exact ha
 ·split
  ·exact⟨by omega,by omega⟩
  ·split
   ·rw[fK];exact ep _
   ·exact hb
theorem gS{a b:Int}(ha:gJ a)(hb:gJ b):(a=0/\b=0)↔∀ n:Nat,n<128->gb (if n<64 then a else b) (n%64)=false:=by
 constructor
 ·rintro⟨rfl,rfl⟩ n hn;rw[ite_self,fQ]
 ·intro h;refine⟨gN ha fun k hk=>?_,gN hb fun k hk=>?_⟩
  ·have:=h k (by omega);rw[if_pos hk,iy hk]at this;exact this
  ·have:=h (k+64) (by omega);rw[if_neg (by omega),Nat.add_mod_right,iy hk]at this;exact this
def On(P:Int->Prop)(f d:Int):Prop:=∃ n:Nat,n<128/\P n/\0<((n:Int)-f)*d
theorem SetOf.bynd{a b:Int}{P:Int->Prop}(h:SetOf a b P)(f:Nat)(hf:f<128){d:Int}(hd:d=1\/d=-1):bynd a b f d=true↔On P f d:=by
 have key:∀{x y:Int},gJ x->gJ y->((!(x==0&&y==0))=true↔∃ n:Nat,n<128/\gb (if n<64 then x else y) (n%64)=true):=by
  intro x y hx hy;have hz:=gS hx hy;rw[Bool.not_eq_true',<-Bool.not_eq_true];simp only[Wj,beq_iff_eq];rw[hz];constructor
  ·intro hn
   false_or_by_contra
   rename_i hc;exact hn fun n h1=>by
    cases hg:gb (if n<64 then x else y) (n%64)
    ·rfl
    ·exact absurd ⟨n,h1,hg⟩ hc
  ·rintro⟨n,h1,h2⟩ hn;rw[hn n h1]at h2;exact absurd h2 (by simp)
 unfold Go.Proofs.YtdeogmbfgkepeaaGreatDoor.bynd uz uB;rcases hd with rfl|rfl
 ·rw[if_pos (by omega),if_pos (by omega),show(f:Int)+1=((f+1:Nat):Int)from by omega];rw[key (by unfold qN;rw[fS];exact ep _) (by unfold qO;rw[fS];exact ep _)];constructor
  ·rintro⟨n,h1,h2⟩;rw[gQ _ _ _ _ h1 (by omega),Wj,decide_eq_true_eq,<-fG h1,h.e n h1]at h2;exact⟨n,h1,h2.1,by omega⟩
  ·rintro⟨n,h1,h2,h3⟩;refine⟨n,h1,?_⟩;rw[gQ _ _ _ _ h1 (by omega),Wj,decide_eq_true_eq,<-fG h1,h.e n h1];exact⟨h2,by omega⟩
 ·simp only[show¬((0:Int)< -1)from by decide,show((-1:Int)<0)from by decide,if_true,if_false];rw[key (gR h.a0 h.b0 _).1 (gR h.a0 h.b0 _).2];constructor
  ·rintro⟨n,h1,h2⟩;rw[gx _ _ _ _ h1 (by omega),Wj,decide_eq_true_eq,<-fG h1,h.e n h1]at h2;exact⟨n,h1,h2.1,by omega⟩
  ·rintro⟨n,h1,h2,h3⟩;refine⟨n,h1,?_⟩;rw[gx _ _ _ _ h1 (by omega),Wj,decide_eq_true_eq,<-fG h1,h.e n h1];exact⟨h2,by omega⟩
structure Vw where
 R:Int->Prop
 U:Int->Int->Prop
def Vw.W(v:Vw)(f:Int):Prop:=v.R f\/v.U 1 f\/v.U (-1) f
def Vw.Go(v:Vw)(f d:Int):Prop:=v.U d f\/On v.W f d
open Classical in
noncomputable def Vw.of(v:Vw)(f dir:Int):Int:=
 if dir=0 then(if v.U 1 f then 1 else if v.U (-1) f then -1 else if On v.W f 1 then 1 else if On v.W f (-1)then -1 else 0)
 else if v.Go f dir then dir else if v.Go f (-dir)then -dir else 0
def Vw.stop(v:Vw)(f dir:Int):Prop:=v.R f\/(dir=0/\(v.U 1 f\/v.U (-1) f))\/(dir≠0/\(v.U dir f\/(v.U (-dir) f/\¬ On v.W f dir)))
def Vw.ok(s:Sc)(v:Vw):Prop:=∀ f,v.W f->0<=f/\f<s.fl
def NoX(s:Sc)(v:Vw)(c:Cr)(N:Int):Prop:=∀ k F',0<=k->k<N->c.pos+c.dir*k=F'*s.gap->¬ (v.stop F' c.dir\/v.of F' c.dir≠c.dir)
structure NextX(s:Sc)(v:Vw)(c:Cr)(N:Int):Prop where
 n1:1<=N
 door:c.mode=2\/c.mode=3\/c.mode=4->N=c.left
 idle:c.mode=0->N=1
 ride:c.mode=1->c.dir≠0->∃ F,c.pos+c.dir*(N-1)=F*s.gap/\(v.stop F c.dir\/v.of F c.dir≠c.dir)/\NoX s v c (N-1)
structure MoveX(s:Sc)(v:Vw)(c c':Cr):Prop where
 go:c.pos%s.gap≠0->c'={c with pos:=c.pos+c.dir}
 stop:c.pos%s.gap=0->v.stop (c.pos/s.gap) c.dir->c'={c with mode:=2,left:=s.opn,dir:=v.of (c.pos/s.gap) c.dir}
 rest:c.pos%s.gap=0->¬ v.stop (c.pos/s.gap) c.dir->v.of (c.pos/s.gap) c.dir=0->c'={c with mode:=0,dir:=0}
 on:c.pos%s.gap=0->¬ v.stop (c.pos/s.gap) c.dir->v.of (c.pos/s.gap) c.dir≠0->c'={c with mode:=1,dir:=v.of (c.pos/s.gap) c.dir,pos:=c.pos+v.of (c.pos/s.gap) c.dir}
section
variable{v:Vw}{f dir:Int}
theorem Vw.of_go(h0:dir≠0)(h:v.Go f dir):v.of f dir=dir:=by unfold Vw.of;rw[if_neg h0,if_pos h]
theorem Vw.of_turn(h0:dir≠0)(h:¬ v.Go f dir)(h':v.Go f (-dir)):v.of f dir=-dir:=by unfold Vw.of;rw[if_neg h0,if_neg h,if_pos h']
theorem Vw.of_or(v:Vw)(f dir:Int):v.of f dir=0\/v.Go f (v.of f dir):=by
 unfold Vw.of;split
 ·split
  ·rename_i h;exact .inr (.inl h)
  ·split
   ·rename_i h;exact .inr (.inl h)
   ·split
    ·rename_i h;exact .inr (.inr h)
    ·split
     ·rename_i h;exact .inr (.inr h)
     ·exact .inl rfl
 ·split
  ·rename_i h;exact .inr h
  ·split
   ·rename_i h;exact .inr h
   ·exact .inl rfl
theorem Vw.of_rng(v:Vw)(f:Int)(h:dir=0\/dir=1\/dir=-1):v.of f dir=0\/v.of f dir=1\/v.of f dir=-1:=by
 unfold Vw.of;split
 ·split
  ·exact .inr (.inl rfl)
  ·split
   ·exact .inr (.inr rfl)
   ·split
    ·exact .inr (.inl rfl)
    ·split
     ·exact .inr (.inr rfl)
     ·exact .inl rfl
 ·split
  ·exact h
  ·split
   ·omega
   ·exact .inl rfl
theorem Vw.stop_just(hd:dir=0\/dir=1\/dir=-1)(h:v.stop f dir):v.R f\/(v.of f dir≠0/\v.of f (v.of f dir)=v.of f dir/\v.U (v.of f dir) f):=by
 rcases h with h|⟨rfl,h⟩|⟨h0,h⟩
 ·exact .inl h
 ·right;rcases Wk (v.U 1 f)with h1|h1
  ·have e:v.of f 0=1:=by unfold Vw.of;rw[if_pos rfl,if_pos h1]
   rw[e];exact⟨by omega,Vw.of_go (by omega) (.inl h1),h1⟩
  ·have h2:=h.resolve_left h1;have e:v.of f 0=-1:=by unfold Vw.of;rw[if_pos rfl,if_neg h1,if_pos h2]
   rw[e];exact⟨by omega,Vw.of_go (by omega) (.inl h2),h2⟩
 ·right;rcases Wk (v.U dir f)with h1|h1
  ·have e:v.of f dir=dir:=Vw.of_go h0 (.inl h1);rw[e];exact⟨h0,e,h1⟩
  ·obtain⟨h2,h3⟩:=h.resolve_left h1;have e:v.of f dir=-dir:=Vw.of_turn h0 (fun g=>g.elim h1 h3) (.inl h2);rw[e];exact⟨by omega,Vw.of_go (by omega) (.inl h2),h2⟩
theorem Vw.on_of(hd:dir=0\/dir=1\/dir=-1)(hw:∃ n:Nat,n<128/\v.W n)(hs:¬ v.stop f dir):v.of f dir≠0/\On v.W f (v.of f dir):=by
 obtain⟨w,h5,hw⟩:=hw;have hR:¬ v.R f:=fun h=>hs (.inl h)
 have key:On v.W f 1\/On v.W f (-1):=by
  rcases Int.lt_trichotomy (w:Int) f with h|h|h
  ·exact .inr ⟨w,h5,hw,by omega⟩
  ·rw[h]at hw;rcases hw with h1|h1|h1
   ·exact absurd h1 hR
   ·rcases hd with rfl|rfl|rfl
    ·exact absurd (.inr (.inl ⟨rfl,.inl h1⟩)) hs
    ·exact absurd (.inr (.inr ⟨by omega,.inl h1⟩)) hs
    ·right;false_or_by_contra;rename_i hc;exact hs (.inr (.inr ⟨by omega,.inr ⟨h1,hc⟩⟩))
   ·rcases hd with rfl|rfl|rfl
    ·exact absurd (.inr (.inl ⟨rfl,.inr h1⟩)) hs
    ·left;false_or_by_contra;rename_i hc;exact hs (.inr (.inr ⟨by omega,.inr ⟨h1,hc⟩⟩))
    ·exact absurd (.inr (.inr ⟨by omega,.inl h1⟩)) hs
  ·exact .inl ⟨w,h5,hw,by omega⟩
 rcases hd with rfl|hd
 ·have h1:¬ v.U 1 f:=fun h=>hs (.inr (.inl ⟨rfl,.inl h⟩))
  have h2:¬ v.U (-1) f:=fun h=>hs (.inr (.inl ⟨rfl,.inr h⟩))
  unfold Vw.of;rw[if_pos rfl,if_neg h1,if_neg h2];by_cases h3:On v.W f 1
  ·rw[if_pos h3];exact⟨by omega,h3⟩
  ·rw[if_neg h3,if_pos (key.resolve_left h3)];exact⟨by omega,key.resolve_left h3⟩
 ·have h0:dir≠0:=by omega
  have h1:¬ v.U dir f:=fun h=>hs (.inr (.inr ⟨h0,.inl h⟩))
  by_cases h3:On v.W f dir
  ·rw[Vw.of_go h0 (.inr h3)];exact⟨h0,h3⟩
  ·have h4:On v.W f (-dir):=by
    rcases hd with rfl|rfl
    ·exact key.resolve_left h3
    ·rcases key with h|h
     ·exact h
     ·exact absurd h h3
   rw[Vw.of_turn h0 (fun g=>g.elim h1 h3) (.inr h4)];exact⟨by omega,h4⟩
end
structure Sees(v:Vw)(l:List Rid)(a b c d e f:Int):Prop where
 w:SetOf a b v.W
 u:SetOf c d (v.U 1)
 d:SetOf e f (v.U (-1))
 r:SetOf (g9 l) (ge l) v.R
section
variable{v:Vw}{l:List Rid}{a b c d e f dir:Int}{F:Nat}
theorem Sees.call(h:Sees v l a b c d e f)(hF:F<128)(hd:dir=1\/dir=-1):zF c d e f F dir=true↔v.U dir F:=by
 unfold zF;rcases hd with rfl|rfl
 ·rw[if_pos (by omega)];exact h.u.e F hF
 ·rw[if_neg (by omega),if_pos (by omega)];exact h.d.e F hF
theorem Sees.bey(h:Sees v l a b c d e f)(hF:F<128)(hd:dir=1\/dir=-1):bynd a b F dir=true↔On v.W F dir:=h.w.bynd F hF hd
theorem Sees.of(h:Sees v l a b c d e f)(hF:F<128)(hd:dir=0\/dir=1\/dir=-1):qD a b c d e f F dir=v.of F dir:=by
 unfold qD Vw.of Vw.Go;have c1:=h.call hF (.inl rfl);have c2:=h.call hF (.inr rfl);have b1:=h.bey hF (.inl rfl);have b2:=h.bey hF (.inr rfl);by_cases h1:v.U 1 F<;>by_cases h2:v.U (-1) F<;>by_cases h3:On v.W F 1<;>by_cases h4:On v.W F (-1)<;>rcases hd with rfl|rfl|rfl<;>simp[c1,c2,b1,b2,h1,h2,h3,h4]
theorem Sees.stop(h:Sees v l a b c d e f)(hF:F<128)(hd:dir=0\/dir=1\/dir=-1):yo a b c d e f F dir l=true↔v.stop F dir:=by
 unfold yo Vw.stop;have c1:=h.call hF (.inl rfl);have c2:=h.call hF (.inr rfl);have b1:=h.bey hF (.inl rfl);have b2:=h.bey hF (.inr rfl);have r:=h.r.e F hF;rcases hd with rfl|rfl|rfl<;>simp[c1,c2,b1,b2,r,<-Bool.not_eq_true]
end
theorem gC(l:List Rid):SetOf (g9 l) (ge l) (fun f=>∃ r∈l,r.to_=f):=by
 have key:∀(l:List Rid)(x y:Int)(P:Int->Prop),SetOf x y P->SetOf (l.foldl (fun a r=>fE a r.to_) x) (l.foldl (fun b r=>fF b r.to_) y) (fun f=>P f\/∃ r∈l,r.to_=f):=by
  intro l
  induction l with
  |nil=>exact fun x y P h=>h.congr fun n _=>by simp
  |cons r l ih=>exact fun x y P h=>(ih _ _ _ (h.with_ r.to_)).congr fun n _=>by simp[or_assoc]
 exact(key l 0 0 _ SetOf.nil).congr fun n _=>by simp
theorem gj{cap:Int}{n:Nat}{x y:Int}{P:Int->Prop}(h:SetOf x y P):SetOf (gw cap n x) (gw cap n y) (fun f=>(n:Int)<cap/\P f):=by
 unfold gw;by_cases hc:cap<=(n:Int)
 ·rw[if_pos hc,if_pos hc];exact SetOf.nil.congr fun n _=>⟨False.elim,fun h=>by omega⟩
 ·rw[if_neg hc,if_neg hc];exact h.congr fun n _=>⟨fun h=>⟨by omega,h⟩,fun h=>h.2⟩
def yy(cap:Int)(l:List Rid)(P:Int->Int->Prop):Vw:=⟨fun f=>∃ r∈l,r.to_=f,fun d f=>(l.length:Int)<cap/\P d f⟩
theorem gZ{cap x0 x1 y0 y1:Int}{l:List Rid}{P:Int->Int->Prop}(h:SetOf x0 x1 (P 1))(h':SetOf y0 y1 (P (-1))):
  Sees (yy cap l P) l (bits .or .u64 (g9 l) (gw cap l.length (bits .or .u64 x0 y0))) (bits .or .u64 (ge l) (gw cap l.length (bits .or .u64 x1 y1)))
   (gw cap l.length x0) (gw cap l.length x1) (gw cap l.length y0) (gw cap l.length y1):=
 ⟨((gC l).or (gj (h.or h'))).congr fun n _=>or_congr Iff.rfl and_or_left,gj h,gj h',gC l⟩
section
variable{s:Sc}{v:Vw}{l:List Rid}{c:Cr}{f D:Int}
theorem MoveX.go_(hr:c.pos%s.gap≠0):MoveX s v c {c with pos:=c.pos+c.dir}:=⟨fun _=>rfl,fun h=>absurd h hr,fun h=>absurd h hr,fun h=>absurd h hr⟩
theorem MoveX.stop_(hf:c.pos/s.gap=f)(hr:c.pos%s.gap=0)(hD:D=v.of f c.dir)(h:v.stop f c.dir):MoveX s v c {c with mode:=2,left:=s.opn,dir:=D}:=by
 subst hf;subst hD;exact⟨fun h=>absurd hr h,fun _ _=>rfl,fun _ h2=>absurd h h2,fun _ h2=>absurd h h2⟩
theorem MoveX.rest_(hf:c.pos/s.gap=f)(hr:c.pos%s.gap=0)(hD:D=v.of f c.dir)(h:¬ v.stop f c.dir)(h0:D=0):MoveX s v c {c with mode:=0,dir:=0}:=by
 subst hf;subst hD;exact⟨fun h=>absurd hr h,fun _ h2=>absurd h2 h,fun _ _ _=>rfl,fun _ _ h2=>absurd h0 h2⟩
theorem MoveX.on_(hf:c.pos/s.gap=f)(hr:c.pos%s.gap=0)(hD:D=v.of f c.dir)(h:¬ v.stop f c.dir)(h0:D≠0):MoveX s v c {c with mode:=1,dir:=D,pos:=c.pos+D}:=by
 subst hf;subst hD;exact⟨fun h=>absurd hr h,fun _ h2=>absurd h2 h,fun _ _ h2=>absurd h2 h0,fun _ _ _=>rfl⟩
end
theorem Sees.ofI{v:Vw}{l:List Rid}{a b c d e g f dir:Int}(h:Sees v l a b c d e g)(f0:0<=f)(f1:f<=127)(d0: -1<=dir)(d1:dir<=1):qD a b c d e g f dir=v.of f dir:=by
 obtain⟨F,rfl⟩:=QM f0;exact h.of (by omega) (by omega)
theorem Sees.stopI{v:Vw}{l:List Rid}{a b c d e g f dir:Int}(h:Sees v l a b c d e g)(f0:0<=f)(f1:f<=127)(d0: -1<=dir)(d1:dir<=1):yo a b c d e g f dir l=true↔v.stop f dir:=by
 obtain⟨F,rfl⟩:=QM f0;exact h.stop (by omega) (by omega)
theorem Jo(w:l6)(cr:Cr)(A:iX)(n k:Nat)(x0 x1 y0 y1:Int)(l:iZ)(hl:0<l.length)(t1 t2 t3 t4:TypeId):
  Boxes w ((((w.alloc (.cells (cr.cells A n k) t1)).alloc (.cells #[.int .u64 x0,.int .u64 x1] t2)).alloc (.cells #[.int .u64 y0,.int .u64 y1] t3)).alloc (.cells l.toArray t4)) 3 [(w.heap.size,[O J cr.pos,O J cr.dir,O J cr.mode,O J cr.left,.bool cr.wt,.slice A n k]),(w.heap.size+1,[.int .u64 x0,.int .u64 x1]),(w.heap.size+1+1,[.int .u64 y0,.int .u64 y1])] (w.heap.size+1+1+1)/\Bx ((((w.alloc (.cells (cr.cells A n k) t1)).alloc (.cells #[.int .u64 x0,.int .u64 x1] t2)).alloc (.cells #[.int .u64 y0,.int .u64 y1] t3)).alloc (.cells l.toArray t4)) (w.heap.size+1+1+1) l:=by
 have e1:=Bx.new w [O J cr.pos,O J cr.dir,O J cr.mode,O J cr.left,.bool cr.wt,.slice A n k] t1;have e2:=Bx.at_size (w:=w.alloc (.cells (cr.cells A n k) t1)) (l:=[.int .u64 x0,.int .u64 x1]) (ty:=t2) (q:=w.heap.size+1) (by simp);have e3:=Bx.at_size (w:=(w.alloc (.cells (cr.cells A n k) t1)).alloc (.cells #[.int .u64 x0,.int .u64 x1] t2)) (l:=[.int .u64 y0,.int .u64 y1]) (ty:=t3) (q:=w.heap.size+1+1) (by simp);have e4:=Bx.at_size (w:=((w.alloc (.cells (cr.cells A n k) t1)).alloc (.cells #[.int .u64 x0,.int .u64 x1] t2)).alloc (.cells #[.int .u64 y0,.int .u64 y1] t3)) (l:=l) (ty:=t4) (q:=w.heap.size+1+1+1) (by simp);refine⟨⟨by go_grown,by simp,?_,by omega⟩,e4⟩;intro p hp;simp only[qx,Zl,or_false]at hp;rcases hp with rfl|rfl|rfl
 ·exact⟨by simp only;omega,by simp only;omega,((e1.alloc (by simp) _).alloc (by simp) _).alloc (by simp) _⟩
 ·exact⟨by simp only;omega,by simp only;omega,(e2.alloc (by simp) _).alloc (by simp) _⟩
 ·exact⟨by simp only;omega,by simp only;omega,e3.alloc (by simp) _⟩
theorem bf(cr:Cr)(A:iX)(n k B:Nat)(l:List Rid)(cap x0 x1 y0 y1:Int)(w:l6)(h:Rds w B A n l)(hB:B<=w.heap.size)(hn:n<=1000000):
  Calls prog 253 #[cr.v A n k,O J cap,zy x0 x1,zy y0 y1] w (fk (zy (bits .or .u64 (g9 l) (gw cap n (bits .or .u64 x0 y0))) (bits .or .u64 (ge l) (gw cap n (bits .or .u64 x1 y1)))) w):=by
 have HS0:=ze (Jo w cr A n k x0 x1 y0 y1 [.int .u64 0,.int .u64 0] (by decide) 265 325 325 325);have h5:=ze (fun(V:l6)(hb:fj w V)=>vM cr A n k B l V (h.below (hb.mono hB)) (by have:=hb.size;omega) hn);have h3:=ze (fun(V:l6)(a b:Int)=>lc cr A n k cap a b V);have h4:=ze (fun(V:l6)(a b c d:Int)=>VB a b c d V);clear h
 go_in
 go_wp2_with fail;refine j9 (w:=w) (fun W=>Boxes w W 3 [(w.heap.size,[O J cr.pos,O J cr.dir,O J cr.mode,O J cr.left,.bool cr.wt,.slice A n k]),(w.heap.size+1,[.int .u64 x0,.int .u64 x1]),(w.heap.size+1+1,[.int .u64 y0,.int .u64 y1])] (w.heap.size+1+1+1)/\Bx W (w.heap.size+1+1+1) [.int .u64 0,.int .u64 0]) HS0.o HS0.o.1.b (by have:=HS0.o.1.z;omega) ?_;rintro W h2 h6 h7;clear HS0 h6 h7;have HS0:=ze h2.1;have HR:=ze h2.2.drew;clear h2;have MK:=ze (fun(W:l6)(h:Boxes w W 3 [(w.heap.size,[O J cr.pos,O J cr.dir,O J cr.mode,O J cr.left,.bool cr.wt,.slice A n k]),(w.heap.size+1,[.int .u64 x0,.int .u64 x1]),(w.heap.size+1+1,[.int .u64 y0,.int .u64 y1])] (w.heap.size+1+1+1))=>(show Boxes w W 3 [(w.heap.size,[O J cr.pos,O J cr.dir,O J cr.mode,O J cr.left,.bool cr.wt,.slice A n k]),(w.heap.size+1,[.int .u64 x0,.int .u64 x1]),(w.heap.size+1+1,[.int .u64 y0,.int .u64 y1])] (w.heap.size+1+1+1)/\cr.K A n k W (w.heap.size)/\xD (.int .u64 x0) (.int .u64 x1) W (w.heap.size+1)/\xD (.int .u64 y0) (.int .u64 y1) W (w.heap.size+1+1)from⟨h,(h.cell (q:=w.heap.size) (l:=[O J cr.pos,O J cr.dir,O J cr.mode,O J cr.left,.bool cr.wt,.slice A n k]) (by simp)).k6 rfl,(h.cell (q:=w.heap.size+1) (l:=[.int .u64 x0,.int .u64 x1]) (by simp)).k2,(h.cell (q:=w.heap.size+1+1) (l:=[.int .u64 y0,.int .u64 y1]) (by simp)).k2⟩))
 go_region_held3 (fun W=>Boxes w W 3 [(w.heap.size,[O J cr.pos,O J cr.dir,O J cr.mode,O J cr.left,.bool cr.wt,.slice A n k]),(w.heap.size+1,[.int .u64 x0,.int .u64 x1]),(w.heap.size+1+1,[.int .u64 y0,.int .u64 y1])] (w.heap.size+1+1+1)/\cr.K A n k W (w.heap.size)/\xD (.int .u64 x0) (.int .u64 x1) W (w.heap.size+1)/\xD (.int .u64 y0) (.int .u64 y1) W (w.heap.size+1+1))
  (first|(with_reducible exact MK.o _ h1.o)|(with_reducible exact MK.o _ (Boxes.set 1 _ (Boxes.set 0 _ h1.o)))|(with_reducible exact MK.o _ HS0.o.drew))
  (first
   |(go_at_call 250;go_split_ands;(with_reducible refine(h4.o _ _ _ _ _).mono ?_);rintro r wX ⟨rfl,h0⟩;have HR:=ze (Boxes.rest (by assumption) HR.o h0);(try clear j0 j1 i0 i1);obtain⟨⟨j0,j1⟩,i0,i1⟩:=HR.o.o2;have h1:=ze (Boxes.step h0 (by assumption)))
   |(go_at_call 251;go_split_ands;(with_reducible refine(h5.o _ (Boxes.b (by assumption))).mono ?_);rintro r wX ⟨rfl,h0⟩;have HR:=ze (Boxes.rest (by assumption) HR.o h0);(try clear j0 j1 i0 i1);obtain⟨⟨j0,j1⟩,i0,i1⟩:=HR.o.o2;have h1:=ze (Boxes.step h0 (by assumption)))
   |(go_at_call 254;go_split_ands;(with_reducible refine(h3.o _ _ _).mono ?_);rintro r wX ⟨rfl,h0⟩;have HR:=ze (Boxes.rest (by assumption) HR.o h0);(try clear j0 j1 i0 i1);obtain⟨⟨j0,j1⟩,i0,i1⟩:=HR.o.o2;have h1:=ze (Boxes.step h0 (by assumption))))
 all_goals
  go_split_ands;go_wp2_with fail;refine bodyPost_ret (v:=zy _ _) (by rw[zi rfl];go_simp;exact⟨rfl,rfl⟩) rfl ?_;exact⟨rfl,(Boxes.set 1 _ (Boxes.set 0 _ h1.o)).b⟩
def cK(v:Vw)(l:List Rid)(e:Ending):Prop:=∃ a b c d e' f:Int,e=.returned (qI a b c d e' f)/\Sees v l a b c d e' f
theorem kU(cr:Cr)(A:iX)(n k B:Nat)(l:List Rid)(cap x0 x1 y0 y1:Int)(w:l6)(h:Rds w B A n l)(hB:B<=w.heap.size)(hn:n<=1000000){P:Int->Int->Prop}(hx:SetOf x0 x1 (P 1))(hy:SetOf y0 y1 (P (-1))):
  Calls prog 228 #[cr.v A n k,O J cap,zy x0 x1,zy y0 y1] w fun r w'=>cK (yy cap l P) l r/\fj w w':=by
 have HS0:=ze (Jo w cr A n k x0 x1 y0 y1 [.int .u64 0,.int .u64 0,.int .u64 0,.int .u64 0,.int .u64 0,.int .u64 0] (by decide) 265 325 325 366);have h4:=ze (fun(V:l6)(hb:fj w V)=>bf cr A n k B l cap x0 x1 y0 y1 V (h.below (hb.mono hB)) (by have:=hb.size;omega) hn);have h3:=ze (fun(V:l6)(a b:Int)=>lc cr A n k cap a b V);have h5:=ze (show Sees (yy cap l P) l _ _ _ _ _ _ from h.2▸gZ hx hy);clear h hx hy
 go_in
 go_wp2_with fail;refine j9 (w:=w) (fun W=>Boxes w W 3 [(w.heap.size,[O J cr.pos,O J cr.dir,O J cr.mode,O J cr.left,.bool cr.wt,.slice A n k]),(w.heap.size+1,[.int .u64 x0,.int .u64 x1]),(w.heap.size+1+1,[.int .u64 y0,.int .u64 y1])] (w.heap.size+1+1+1)/\Bx W (w.heap.size+1+1+1) [.int .u64 0,.int .u64 0,.int .u64 0,.int .u64 0,.int .u64 0,.int .u64 0]) HS0.o HS0.o.1.b (by have:=HS0.o.1.z;omega) ?_;rintro W h2 h6 h7;clear HS0 h6 h7;have HS0:=ze h2.1;have HR:=ze h2.2.drew;clear h2;have MK:=ze (fun(W:l6)(h:Boxes w W 3 [(w.heap.size,[O J cr.pos,O J cr.dir,O J cr.mode,O J cr.left,.bool cr.wt,.slice A n k]),(w.heap.size+1,[.int .u64 x0,.int .u64 x1]),(w.heap.size+1+1,[.int .u64 y0,.int .u64 y1])] (w.heap.size+1+1+1))=>(show Boxes w W 3 [(w.heap.size,[O J cr.pos,O J cr.dir,O J cr.mode,O J cr.left,.bool cr.wt,.slice A n k]),(w.heap.size+1,[.int .u64 x0,.int .u64 x1]),(w.heap.size+1+1,[.int .u64 y0,.int .u64 y1])] (w.heap.size+1+1+1)/\cr.K A n k W (w.heap.size)/\xD (.int .u64 x0) (.int .u64 x1) W (w.heap.size+1)/\xD (.int .u64 y0) (.int .u64 y1) W (w.heap.size+1+1)from⟨h,(h.cell (q:=w.heap.size) (l:=[O J cr.pos,O J cr.dir,O J cr.mode,O J cr.left,.bool cr.wt,.slice A n k]) (by simp)).k6 rfl,(h.cell (q:=w.heap.size+1) (l:=[.int .u64 x0,.int .u64 x1]) (by simp)).k2,(h.cell (q:=w.heap.size+1+1) (l:=[.int .u64 y0,.int .u64 y1]) (by simp)).k2⟩))
 go_region_held3 (fun W=>Boxes w W 3 [(w.heap.size,[O J cr.pos,O J cr.dir,O J cr.mode,O J cr.left,.bool cr.wt,.slice A n k]),(w.heap.size+1,[.int .u64 x0,.int .u64 x1]),(w.heap.size+1+1,[.int .u64 y0,.int .u64 y1])] (w.heap.size+1+1+1)/\cr.K A n k W (w.heap.size)/\xD (.int .u64 x0) (.int .u64 x1) W (w.heap.size+1)/\xD (.int .u64 y0) (.int .u64 y1) W (w.heap.size+1+1))
  (first|(with_reducible exact MK.o _ h1.o)|(with_reducible exact MK.o _ (Boxes.set 5 _ (Boxes.set 4 _ (Boxes.set 3 _ (Boxes.set 2 _ (Boxes.set 1 _ (Boxes.set 0 _ h1.o)))))))|(with_reducible exact MK.o _ HS0.o.drew))
  (first
   |(go_at_call 253;go_split_ands;(with_reducible refine(h4.o _ (Boxes.b (by assumption))).mono ?_);rintro r wX ⟨rfl,h0⟩;have HR:=ze (Boxes.rest (by assumption) HR.o h0);(try clear j0 j1 j2 j3 j4 j5 i0 i1 i2 i3 i4 i5);obtain⟨⟨j0,j1,j2,j3,j4,j5⟩,i0,i1,i2,i3,i4,i5⟩:=HR.o.o6;have h1:=ze (Boxes.step h0 (by assumption)))
   |(go_at_call 254;go_split_ands;(with_reducible refine(h3.o _ _ _).mono ?_);rintro r wX ⟨rfl,h0⟩;have HR:=ze (Boxes.rest (by assumption) HR.o h0);(try clear j0 j1 j2 j3 j4 j5 i0 i1 i2 i3 i4 i5);obtain⟨⟨j0,j1,j2,j3,j4,j5⟩,i0,i1,i2,i3,i4,i5⟩:=HR.o.o6;have h1:=ze (Boxes.step h0 (by assumption))))
 all_goals
  go_split_ands;go_wp2_with fail;refine bodyPost_ret (v:=qI _ _ _ _ _ _) (by rw[zi rfl];go_simp;exact⟨rfl,rfl,rfl,rfl,rfl,rfl⟩) rfl ?_;exact⟨⟨_,_,_,_,_,_,rfl,h5.o⟩,(Boxes.set 5 _ (Boxes.set 4 _ (Boxes.set 3 _ (Boxes.set 2 _ (Boxes.set 1 _ (Boxes.set 0 _ h1.o)))))).b⟩
end
end Go.Proofs.YtdeogmbfgkepeaaGreatDoor
