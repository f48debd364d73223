/- Contracts that WholeBins needs. Each tells its conditions. -/
import Derived.Test.YtdeogmbfgkepeaaGreatDoorQ07
import Derived.Test.YtdeogmbfgkepeaaGreatDoorQ15
set_option linter.unusedVariables false
set_option linter.unusedSimpArgs false
set_option maxRecDepth 100000
set_option maxHeartbeats 64000000
namespace Go.Proofs.YtdeogmbfgkepeaaGreatDoor
open Go.Proofs.Tryz
open Go.Value renaming int->O
open Go.IntKind renaming i64->J,u64->U
section
open Go.RowKit HB
def Tz(w:World):Prop:=∀ k:Nat,k<64->∃ u:Int,0<=u/\u<=255/\w.cell? ⟨5,k,none⟩=some (.int .u8 u)
theorem Tz.below{w w':World}{D:Nat}(h:Tz w)(hb:Below D w w')(hD:5<D):Tz w':=fun k hk=>by
 obtain⟨u,h0,h1,h2⟩:=h k hk;exact⟨u,h0,h1,(hb.cell (p:=⟨5,k,none⟩) hD).trans h2⟩
theorem ek(z:Int):0<=IntKind.u64.wrap z/288230376151711744/\IntKind.u64.wrap z/288230376151711744<64:=by
 have h:IntKind.u64.wrap z=z%18446744073709551616:=rfl;rw[h];omega
theorem WQ(x:Int)(w:World)(h:Tz w):Calls prog 293 #[O U x] w fun e w'=>RI e/\w'=w:=by
 by_cases h0:x=0
 ·subst h0;go_enter func293,ntmps293;go_wp2_with fail;go_ret;exact⟨⟨_,rfl⟩,rfl⟩
 ·have e0:(x==0)=false:=by simpa using h0
  clear h0;obtain⟨hy0,hy1⟩:=ek (bits .and .u64 x (IntKind.u64.wrap (-x))*285870213051353865);obtain⟨u,-,-,hu⟩:=h (IntKind.u64.wrap (bits .and .u64 x (IntKind.u64.wrap (-x))*285870213051353865)/288230376151711744).toNat (by omega);go_enter func293,ntmps293;go_wp2_with fail;go_ret;exact⟨⟨_,rfl⟩,rfl⟩
theorem el(x:Int)(w:World):Calls prog 287 #[O U x] w fun e w'=>RI e/\w'=w:=by
 go_enter func287,ntmps287;go_wp2_with fail;go_ret;exact⟨⟨_,rfl⟩,rfl⟩
theorem dm(x:Int)(w:World):Calls prog 95 #[O U x] w fun e w'=>RI e/\w'=w:=by
 go_enter func95,ntmps95;go_wp2_with fail
 all_goals
  go_ret;exact⟨⟨_,rfl⟩,rfl⟩
theorem aJ(x:Int)(w:World):Calls prog 282 #[O U x] w fun e w'=>RI e/\w'=w:=by
 go_enter func282,ntmps282;go_wp2_with(go_at_call 95;refine(dm x _).mono ?_;rintro e w1 ⟨⟨z,rfl⟩,rfl⟩);go_ret;exact⟨⟨_,rfl⟩,rfl⟩
def RIB(e:Ending):Prop:=∃(n:Int)(b:Bool),e=.returned (.tuple #[O J n,.bool b])
theorem RIB.mk(n:Int)(b:Bool):RIB (.returned (.tuple #[O J n,.bool b])):=⟨n,b,rfl⟩
theorem Bs.rest{w W W':World}{q:Nat}{l:List Value}(h:Bx W q l)(hq:q<W.heap.size)(hb:fj W W'):Bx W' q l:=h.below hb hq
theorem YV(a b n:Int)(w:World)(ht:Tz w)(hD:5<w.heap.size):Calls prog 285 #[zy a b,O J n] w fun e w'=>RIB e/\fj w w':=by
 have HB0:=ze (Bs.one w [O U a,O U b] 325);have HTZ:=ze (fun V(hb:fj w V) x=>WQ x V (ht.below hb hD));clear ht;go_enter func285,ntmps285;go_wp2_with(first
  |(go_at_call 293;(with_reducible refine(HTZ.o _ HB3.o _).mono ?_);rintro r w3 ⟨⟨z,rfl⟩,rfl⟩)
  |(go_at_call 289;refine(ux a b n _).mono ?_;rintro r w1 ⟨rfl,hb1⟩;generalize qN a n=x0;generalize qO b n=x1;have HB1:=ze (HB0.o.step hb1);have HB3:=ze ((HB1.o.new (q:=w1.heap.size) rfl [O U x0,O U x1] 325).b);have hz:=hb1.size;clear hb1))
 all_goals
  go_ret2;exact⟨RIB.mk _ _,HB3.o⟩
theorem YW(a b n:Int)(w:World):Calls prog 284 #[zy a b,O J n] w fun e w'=>RIB e/\fj w w':=by
 have HB0:=ze (Bs.one w [O U a,O U b] 325);by_cases h0:n<0
 ·go_enter func284,ntmps284;go_wp2_with fail;go_ret2;exact⟨RIB.mk _ _,HB0.o.b⟩
 ·go_enter func284,ntmps284;go_wp2_with(first
   |(go_at_call 282;(with_reducible refine(aJ _ _).mono ?_);rintro r w3 ⟨⟨z,rfl⟩,rfl⟩)
   |(go_at_call 290;refine(xG a b _ _).mono ?_;rintro r w1 ⟨rfl,hb1⟩;generalize jY a _=x0;generalize jZ b _=x1;have HB1:=ze (HB0.o.step hb1);have HB3:=ze ((HB1.o.new (q:=w1.heap.size) rfl [O U x0,O U x1] 325).b);have hz:=hb1.size;clear hb1))
  all_goals
   go_ret2;exact⟨RIB.mk _ _,HB3.o⟩
theorem kk(a b:Int)(w:World):Calls prog 276 #[zy a b] w fun e w'=>RI e/\fj w w':=by
 have HB:=ze (Bs.one w [O U a,O U b] 325);go_enter func276,ntmps276;go_wp2_with fail;refine j9 (w:=w) (fun W=>Bs w W [(w.heap.size,[O U a,O U b])]) HB.o (by go_grown) (by simp) ?_;rintro W hb hbW hzW;clear HB hbW hzW;have HB:=ze hb;clear hb;have MK:=ze (fun(W:World)(h:Bs w W [(w.heap.size,[O U a,O U b])])=>(show Bs w W [(w.heap.size,[O U a,O U b])]/\xD (O U a) (O U b) W (w.heap.size)from⟨h,(h.cell (q:=w.heap.size) (l:=[O U a,O U b]) (by simp)).k2⟩))
 go_region_held3 (fun W=>Bs w W [(w.heap.size,[O U a,O U b])]/\xD (O U a) (O U b) W (w.heap.size))
  (first|(with_reducible exact MK.o _ HBX.o)|(with_reducible exact MK.o _ HB.o.drew))
  (first
   |(go_at_call 287;go_split_ands;(with_reducible refine(el _ _).mono ?_);rintro r wX ⟨⟨z,rfl⟩,rfl⟩;have HBX:=ze (show Bs w _ [(w.heap.size,[O U a,O U b])]from by assumption)))
 all_goals
  go_split_ands;have HBF:=ze (show Bs w _ [(w.heap.size,[O U a,O U b])]from by assumption);go_wp2_with fail;go_ret;exact⟨⟨_,rfl⟩,HBF.o.b⟩
theorem qQ(s:Sc)(hs:s.ok)(sA:Option Addr)(sn sk:Nat)(a b p d:Int)(w:World)(p0:0<=p)(p1:p<=10000):Calls prog 275 #[s.v sA sn sk,zy a b,O J p,O J d] w fun e w'=>QU e/\fj w w':=by
 have g0:=hs.gap.1;have g1:=hs.gap.2;have h:=Int.emod_add_mul_ediv p s.gap;have hr0:=Int.emod_nonneg p (show s.gap≠0 by omega);have hr1:=Int.emod_lt_of_pos p (show 0<s.gap by omega);have hf0:0<=p/s.gap:=Int.ediv_nonneg p0 (by omega);have hf1:p/s.gap<=10000:=Int.le_trans (Int.ediv_le_self _ p0) p1;have HF:=ze (fun V=>jB p s.gap (p/s.gap) (p%s.gap) V (by rw[Int.mul_comm];omega) hf0 hr0 hr1 (by omega));have HB0:=ze (Bs.three w (s.ls sA sn sk) [O U a,O U b] [O U 0,O U 0] 25 325 325);have HBY:=ze (fun f(h0:0<=f)(h1:f<=10001) V=>yv a b f d V (by omega) (by omega));generalize p/s.gap=f at*;generalize p%s.gap=r at*;clear h;go_enter func275,ntmps275;go_upto_region 1 with(fail);refine j9 (w:=w) (fun W=>Bs w W [(w.heap.size+1+1,[O U 0,O U 0]),(w.heap.size+1,[O U a,O U b]),(w.heap.size,s.ls sA sn sk)]) HB0.o (by go_grown) (by simp;omega) ?_;rintro W hb hbW hzW;clear HB0 hbW hzW;have HB:=ze hb;clear hb;obtain⟨⟨s0,s1,s2,s3,s4,s5,s6,s7,s8,s9,s10,s11,s12⟩,-⟩:=(HB.o.cell (q:=w.heap.size) (l:=s.ls sA sn sk) (by simp)).o13;obtain⟨⟨c0,c1⟩,-⟩:=(HB.o.cell (q:=w.heap.size+1) (l:=[O U a,O U b]) (by simp)).o2;have hzb:=(HB.o.lt (q:=w.heap.size+1+1) (l:=[O U 0,O U 0]) (by simp));cases hx:decide (r=0)
 all_goals
  have HX:=ze hx;clear hx;by_cases hd:d<0
  all_goals
   go_wp2_with(first
    |(go_at_call 227;refine(HF.o _).mono ?_;rintro e w1 ⟨rfl,m,rfl⟩;rw[HX.o])
    |(go_at_call 278;(with_reducible refine(HBY.o _ (by omega) (by omega) _).mono ?_);rintro r w2 ⟨rfl,hb2⟩;generalize uz a _ d=y0;generalize uB b _ d=y1;have HB2:=ze ((HB.o.drewN m).step hb2);obtain⟨⟨j0,j1⟩,i0,i1⟩:=(HB2.o.cell (q:=w.heap.size+1+1) (l:=[O U 0,O U 0]) (by simp)).o2;clear hb2))
   refine bodyPost_ret (v:=zy y0 y1) (by rw[zi rfl];go_simp) rfl ?_;exact⟨⟨_,_,rfl⟩,(HB2.o.b.setCell (p:=⟨w.heap.size+1+1,0,none⟩) (by simp only;omega) _).setCell (p:=⟨w.heap.size+1+1,1,none⟩) (by simp only;omega) _⟩
theorem Kf(s:Sc)(hs:s.ok)(sA:Option Addr)(sn sk:Nat)(a b p q:Int)(w:World)(p0:0<=p)(p1:p<=10000)(q0:0<=q)(q1:q<=10000):Calls prog 274 #[s.v sA sn sk,zy a b,O J p,O J q] w fun e w'=>RI e/\fj w w':=by
 have HB0:=ze (Bs.two w (s.ls sA sn sk) [O U a,O U b] 25 325);have hm0:0<=min p q/\min p q<=10000:=by omega
 have hm1:0<=max p q/\max p q<=10000:=by omega
 have HA1:=ze (fun V=>qQ s hs sA sn sk a b (min p q) 1 V hm0.1 hm0.2);have HA2:=ze (fun V=>qQ s hs sA sn sk a b (max p q) (-1) V hm1.1 hm1.2);clear hm0 hm1;go_enter func274,ntmps274;go_upto_region 1 with(fail);refine j9 (w:=w) (fun W=>Bs w W [(w.heap.size+1,[O U a,O U b]),(w.heap.size,s.ls sA sn sk)]) HB0.o (by go_grown) (by simp;omega) ?_;rintro W hb hbW hzW;clear HB0 hbW hzW;have HB:=ze hb;clear hb;have MK:=ze (fun(W:World)(h:Bs w W [(w.heap.size+1,[O U a,O U b]),(w.heap.size,s.ls sA sn sk)])=>(show Bs w W [(w.heap.size+1,[O U a,O U b]),(w.heap.size,s.ls sA sn sk)]/\xD (O U a) (O U b) W (w.heap.size+1)/\s.K sA sn sk W (w.heap.size)from⟨h,(h.cell (q:=w.heap.size+1) (l:=[O U a,O U b]) (by simp)).k2,(h.cell (q:=w.heap.size) (l:=s.ls sA sn sk) (by simp)).k13 rfl⟩))
 go_region_held3 (fun W=>Bs w W [(w.heap.size+1,[O U a,O U b]),(w.heap.size,s.ls sA sn sk)]/\xD (O U a) (O U b) W (w.heap.size+1)/\s.K sA sn sk W (w.heap.size))
  (first|(with_reducible exact MK.o _ HBX.o)|(with_reducible exact MK.o _ HB.o.drew))
  (first
   |(go_at_call 275;go_split_ands;(with_reducible refine(HA2.o _).mono ?_);rintro r wX ⟨⟨x0,x1,rfl⟩,hbX⟩;have HBX:=ze (Bs.stp hbX (by assumption)))
   |(go_at_call 275;go_split_ands;(with_reducible refine(HA1.o _).mono ?_);rintro r wX ⟨⟨y0,y1,rfl⟩,hbX⟩;have HBX:=ze (Bs.stp hbX (by assumption)))
   |(go_at_call 286;go_split_ands;(with_reducible refine(ax _ _ _ _ _).mono ?_);rintro r wX ⟨⟨z0,z1,rfl⟩,hbX⟩;have HBX:=ze (Bs.stp hbX (by assumption)))
   |(go_at_call 276;go_split_ands;(with_reducible refine(kk _ _ _).mono ?_);rintro r wX ⟨⟨z,rfl⟩,hbX⟩;have HBX:=ze (Bs.stp hbX (by assumption))))
 all_goals
  go_split_ands;have HBF:=ze (show Bs w _ [(w.heap.size+1,[O U a,O U b]),(w.heap.size,s.ls sA sn sk)]from by assumption);go_wp2_with fail;go_ret;exact⟨⟨_,rfl⟩,HBF.o.b⟩
theorem JT(a b:Int)(w:World):Calls prog 176 #[O J a,O J b] w fun e w'=>RI e/\w'=w:=by
 go_enter func176,ntmps176;go_wp2_with fail;go_ret;exact⟨⟨_,rfl⟩,rfl⟩
theorem Zq(a b:Int)(w:World):Calls prog 270 #[O J a,O J b] w fun e w'=>RI e/\w'=w:=by
 go_enter func270,ntmps270;go_wp2_with fail;go_ret;exact⟨⟨_,rfl⟩,rfl⟩
theorem WR(s:Sc)(hs:s.ok)(sA:Option Addr)(sn sk:Nat)(cr:Cr)(A:Option Addr)(n k:Nat)(a b:Int)(w:World)(p0:0<=cr.pos)(p1:cr.pos<=10000)(ht:Tz w)(hD:5<w.heap.size):
  Calls prog 272 #[s.v sA sn sk,cr.v A n k,zy a b] w fun e w'=>RIB e/\fj w w':=by
 have HB0:=ze (Bs.three w (s.ls sA sn sk) (cr.ls A n k) [O U a,O U b] 25 265 325);have HA:=ze (fun V=>qQ s hs sA sn sk a b cr.pos cr.dir V p0 p1);have HNX:=ze (fun V(hb:fj w V) x y=>YV x y 0 V (ht.below hb hD) (by have:=hb.size;omega));have HPV:=ze (fun x y V=>YW x y 128 V);have HE:=ze (fun x y V=>VI x y 0 0 V);clear ht;go_enter func272,ntmps272;go_upto_region 1 with(fail);refine j9 (w:=w) (fun W=>Bs w W [(w.heap.size+1+1,[O U a,O U b]),(w.heap.size+1,cr.ls A n k),(w.heap.size,s.ls sA sn sk)]) HB0.o (by go_grown) (by simp;omega) ?_;rintro W hb hbW hzW;clear HB0 hbW hzW;have HB:=ze hb;clear hb;obtain⟨⟨s0,s1,s2,s3,s4,s5,s6,s7,s8,s9,s10,s11,s12⟩,-⟩:=(HB.o.cell (q:=w.heap.size) (l:=s.ls sA sn sk) (by simp)).o13;obtain⟨⟨c0,c1,c2,c3,c4,c5⟩,-⟩:=(HB.o.cell (q:=w.heap.size+1) (l:=cr.ls A n k) (by simp)).o6;obtain⟨⟨v0,v1⟩,-⟩:=(HB.o.cell (q:=w.heap.size+1+1) (l:=[O U a,O U b]) (by simp)).o2;go_upto_region 2 with(go_at_call 275;refine(HA.o _).mono ?_;rintro r w1 ⟨⟨x0,x1,rfl⟩,hb1⟩;have HB1:=ze ((HB.o.step hb1).new (q:=w1.heap.size) rfl [O U x0,O U x1] 325));generalize w1.alloc _=W1 at HB1⊢;generalize w1.heap.size=q at HB1⊢;clear s0 s1 s2 s3 s4 s5 s6 s7 s8 s9 s10 s11 s12 c0 c1 c2 c3 c4 c5 v0 v1;obtain⟨⟨s0,s1,s2,s3,s4,s5,s6,s7,s8,s9,s10,s11,s12⟩,-⟩:=(HB1.o.cell (q:=w.heap.size) (l:=s.ls sA sn sk) (by simp)).o13;obtain⟨⟨c0,c1,c2,c3,c4,c5⟩,-⟩:=(HB1.o.cell (q:=w.heap.size+1) (l:=cr.ls A n k) (by simp)).o6;obtain⟨⟨v0,v1⟩,-⟩:=(HB1.o.cell (q:=w.heap.size+1+1) (l:=[O U a,O U b]) (by simp)).o2;obtain⟨⟨t0,t1⟩,-⟩:=(HB1.o.cell (q:=q) (l:=[O U x0,O U x1]) (by simp)).o2;have he:=HE.o x0 x1;generalize hx:(x0==0&&x1==0)=X at he;clear hx;by_cases h0:cr.dir=0
 ·go_wp2_with fail;go_ret2;exact⟨RIB.mk _ _,HB1.o.b⟩
 ·have e0:(cr.dir==0)=false:=by simpa using h0
  clear h0;cases X
  ·go_wp2_with(first
    |(go_at_call 176;(with_reducible refine(JT _ _ _).mono ?_);rintro r w5 ⟨⟨z,rfl⟩,rfl⟩)
    |(go_at_call 285;(with_reducible refine(HNX.o _ HB2.o.b _ _).mono ?_);rintro r w4 ⟨⟨m2,b2,rfl⟩,hb4⟩;have HB4:=ze (HB2.o.step hb4);clear s0 s1 s2 s3 s4 s5 s6 s7 s8 s9 s10 s11 s12 c0 c1 c2 c3 c4 c5 v0 v1 t0 t1;obtain⟨⟨s0,s1,s2,s3,s4,s5,s6,s7,s8,s9,s10,s11,s12⟩,-⟩:=(HB4.o.cell (q:=w.heap.size) (l:=s.ls sA sn sk) (by simp)).o13;obtain⟨⟨c0,c1,c2,c3,c4,c5⟩,-⟩:=(HB4.o.cell (q:=w.heap.size+1) (l:=cr.ls A n k) (by simp)).o6;obtain⟨⟨v0,v1⟩,-⟩:=(HB4.o.cell (q:=w.heap.size+1+1) (l:=[O U a,O U b]) (by simp)).o2)
    |(go_at_call 284;(with_reducible refine(HPV.o _ _ _).mono ?_);rintro r w3 ⟨⟨m1,b1,rfl⟩,hb3⟩;have HB2:=ze (HB1.o.step hb3);clear s0 s1 s2 s3 s4 s5 s6 s7 s8 s9 s10 s11 s12 c0 c1 c2 c3 c4 c5 v0 v1 t0 t1;obtain⟨⟨s0,s1,s2,s3,s4,s5,s6,s7,s8,s9,s10,s11,s12⟩,-⟩:=(HB2.o.cell (q:=w.heap.size) (l:=s.ls sA sn sk) (by simp)).o13;obtain⟨⟨c0,c1,c2,c3,c4,c5⟩,-⟩:=(HB2.o.cell (q:=w.heap.size+1) (l:=cr.ls A n k) (by simp)).o6;obtain⟨⟨v0,v1⟩,-⟩:=(HB2.o.cell (q:=w.heap.size+1+1) (l:=[O U a,O U b]) (by simp)).o2;obtain⟨⟨t0,t1⟩,-⟩:=(HB2.o.cell (q:=q) (l:=[O U x0,O U x1]) (by simp)).o2))
   ·go_ret2;exact⟨RIB.mk _ _,HB4.o.b⟩
   ·go_ret2;exact⟨RIB.mk _ _,HB2.o.b⟩
  ·go_wp2_with fail;go_ret2;exact⟨RIB.mk _ _,HB1.o.b⟩
theorem WS(s:Sc)(hs:s.ok)(sA:Option Addr)(sn sk:Nat)(cr:Cr)(A:Option Addr)(n k:Nat)(a b fl d:Int)(w:World)(p0:0<=cr.pos)(p1:cr.pos<=10000)(f0:0<=fl)(f1:fl<=128)(ht:Tz w)(hD:5<w.heap.size):
  Calls prog 249 #[s.v sA sn sk,cr.v A n k,zy a b,O J fl,O J d] w fun e w'=>RI e/\fj w w':=by
 have hpr:=JS f0 f1 hs.gap.1 hs.gap.2;have HB0:=ze (Bs.three w (s.ls sA sn sk) (cr.ls A n k) [O U a,O U b] 25 265 325);have HAT:=ze (fun V=>kP fl s.gap (fl*s.gap) V rfl (by omega) (by omega));generalize fl*s.gap=P at*;obtain⟨hp0,hp1⟩:=hpr;have HST:=ze (fun V=>uC s sA sn sk 1 V);have HTU:=ze (fun V(hb:fj w V)=>WR s hs sA sn sk cr A n k a b V p0 p1 (ht.below hb hD) (by have:=hb.size;omega));have HDO:=ze (fun V=>WP s sA sn sk cr A n k V);have HFA:=ze (fun x y V=>Zq x y V);have HBT:=ze (fun V=>Kf s hs sA sn sk a b cr.pos P V p0 p1 hp0 (by omega));have HDI:=ze (fun V=>qn cr.pos P V (by omega) (by omega));have HAP:=ze (fun V=>qQ s hs sA sn sk a b P cr.dir V hp0 (by omega));have HAC:=ze (fun V=>qQ s hs sA sn sk a b cr.pos cr.dir V p0 p1);have HE:=ze (fun x y V=>VI x y 0 0 V);generalize yw (P-cr.pos)=D at HDI;clear ht;go_enter func249,ntmps249;go_upto_region 1 with(fail);refine j9 (w:=w) (fun W=>Bs w W [(w.heap.size+1+1,[O U a,O U b]),(w.heap.size+1,cr.ls A n k),(w.heap.size,s.ls sA sn sk)]) HB0.o (by go_grown) (by simp;omega) ?_;rintro W hb hbW hzW;clear HB0 hbW hzW;have HB:=ze hb;clear hb;have MK:=ze (fun(W:World)(h:Bs w W [(w.heap.size+1+1,[O U a,O U b]),(w.heap.size+1,cr.ls A n k),(w.heap.size,s.ls sA sn sk)])=>(show Bs w W [(w.heap.size+1+1,[O U a,O U b]),(w.heap.size+1,cr.ls A n k),(w.heap.size,s.ls sA sn sk)]/\xD (O U a) (O U b) W (w.heap.size+1+1)/\cr.K A n k W (w.heap.size+1)/\s.K sA sn sk W (w.heap.size)from⟨h,(h.cell (q:=w.heap.size+1+1) (l:=[O U a,O U b]) (by simp)).k2,(h.cell (q:=w.heap.size+1) (l:=cr.ls A n k) (by simp)).k6 rfl,(h.cell (q:=w.heap.size) (l:=s.ls sA sn sk) (by simp)).k13 rfl⟩))
 go_region_held3 (fun W=>Bs w W [(w.heap.size+1+1,[O U a,O U b]),(w.heap.size+1,cr.ls A n k),(w.heap.size,s.ls sA sn sk)]/\xD (O U a) (O U b) W (w.heap.size+1+1)/\cr.K A n k W (w.heap.size+1)/\s.K sA sn sk W (w.heap.size))
  (first|(with_reducible exact MK.o _ HBX.o)|(with_reducible exact MK.o _ HB.o.drew))
  (first
   |(go_at_call 176;go_split_ands;(with_reducible refine(HAT.o _).mono ?_);rintro r wX ⟨rfl,rfl⟩;have HBX:=ze (show Bs w _ [(w.heap.size+1+1,[O U a,O U b]),(w.heap.size+1,cr.ls A n k),(w.heap.size,s.ls sA sn sk)]from by assumption))
   |(go_at_call 271;go_split_ands;(with_reducible refine(HST.o _).mono ?_);rintro r wX ⟨⟨each,rfl⟩,hbX⟩;have HBX:=ze (Bs.stp hbX (by assumption))))
 all_goals
  go_split_ands;have HBF:=ze (show Bs w _ [(w.heap.size+1+1,[O U a,O U b]),(w.heap.size+1,cr.ls A n k),(w.heap.size,s.ls sA sn sk)]from by assumption);clear HAT HST HB HBX;go_upto_region 3 with(go_at_call 272;(with_reducible refine(HTU.o _ HBF.o.b).mono ?_);rintro r w2 ⟨⟨at_,on_,rfl⟩,hb2⟩;have HB:=ze (HBF.o.step hb2);clear hb2);clear HTU HBF
  go_region_held3 (fun W=>Bs w W [(w.heap.size+1+1,[O U a,O U b]),(w.heap.size+1,cr.ls A n k),(w.heap.size,s.ls sA sn sk)]/\xD (O U a) (O U b) W (w.heap.size+1+1)/\cr.K A n k W (w.heap.size+1)/\s.K sA sn sk W (w.heap.size))
   (first|(with_reducible exact MK.o _ HBX.o)|(with_reducible exact MK.o _ HB.o.drew))
   (first
    |(go_at_call 273;go_split_ands;(with_reducible refine(HDO.o _).mono ?_);rintro r wX ⟨⟨z1,rfl⟩,hbX⟩;have HBX:=ze (Bs.stp hbX (by assumption)))
    |(go_at_call 270;go_split_ands;(with_reducible refine(HFA.o _ _ _).mono ?_);rintro r wX ⟨⟨z2,rfl⟩,rfl⟩;have HBX:=ze (show Bs w _ [(w.heap.size+1+1,[O U a,O U b]),(w.heap.size+1,cr.ls A n k),(w.heap.size,s.ls sA sn sk)]from by assumption))
    |(go_at_call 274;go_split_ands;(with_reducible refine(HBT.o _).mono ?_);rintro r wX ⟨⟨z3,rfl⟩,hbX⟩;have HBX:=ze (Bs.stp hbX (by assumption))))
  all_goals
   go_split_ands;have HBF:=ze (show Bs w _ [(w.heap.size+1+1,[O U a,O U b]),(w.heap.size+1,cr.ls A n k),(w.heap.size,s.ls sA sn sk)]from by assumption);clear HBX HB;cases on_
   ·go_wp2_with fail;go_ret;exact⟨⟨_,rfl⟩,HBF.o.b⟩
   ·go_upto_region 6 with(fail);have key:P≠cr.pos/\D≠cr.dir\/P≠cr.pos/\D=cr.dir/\d≠cr.dir\/P≠cr.pos/\D=cr.dir/\d=cr.dir\/P=cr.pos/\d≠cr.dir\/P=cr.pos/\d=cr.dir:=by omega
    rcases key with⟨hP,hE⟩|⟨hP,hE,hd⟩|⟨hP,hE,hd⟩|⟨hP,hd⟩|⟨hP,hd⟩
    all_goals
     first|have eP:=Y7 hP|have eP:=Ke hP
     try(first|have eD:=Y7 hE|have eD:=Ke hE)
     try(first|have ed:=Y7 hd|have ed:=Ke hd)
     clear hP
     try clear hE
     try clear hd
     go_quiet((go_at_call 188;exact Calls.quiet_of_same (HDI.o _)));go_upto_region 8 with(go_at_call 275;(with_reducible refine(HAP.o _).mono ?_);rintro r w4 ⟨⟨x0,x1,rfl⟩,hb4⟩;have HB4:=ze ((HBF.o.drewN _).step hb4);have he:=HE.o x0 x1;generalize hX:(x0==0&&x1==0)=X at he;clear hX hb4;obtain⟨⟨s0,s1,s2,s3,s4,s5,s6,s7,s8,s9,s10,s11,s12⟩,-⟩:=(HB4.o.cell (q:=w.heap.size) (l:=s.ls sA sn sk) (by simp)).o13;obtain⟨⟨c0,c1,c2,c3,c4,c5⟩,-⟩:=(HB4.o.cell (q:=w.heap.size+1) (l:=cr.ls A n k) (by simp)).o6;obtain⟨⟨v0,v1⟩,-⟩:=(HB4.o.cell (q:=w.heap.size+1+1) (l:=[O U a,O U b]) (by simp)).o2);cases X
     all_goals first
      |(go_upto_region 13 with(first|(go_at_call 276;(with_reducible refine(kk _ _ _).mono ?_);rintro r w6 ⟨⟨many,rfl⟩,hb6⟩;have HB6:=ze (HB5.o.step hb6);have HB7:=ze HB6.o;clear hb6;obtain⟨⟨s0,s1,s2,s3,s4,s5,s6,s7,s8,s9,s10,s11,s12⟩,-⟩:=(HB6.o.cell (q:=w.heap.size) (l:=s.ls sA sn sk) (by simp)).o13;obtain⟨⟨c0,c1,c2,c3,c4,c5⟩,-⟩:=(HB6.o.cell (q:=w.heap.size+1) (l:=cr.ls A n k) (by simp)).o6;obtain⟨⟨v0,v1⟩,-⟩:=(HB6.o.cell (q:=w.heap.size+1+1) (l:=[O U a,O U b]) (by simp)).o2)|(go_at_call 275;(with_reducible refine(HAC.o _).mono ?_);rintro r w5 ⟨⟨y0,y1,rfl⟩,hb5⟩;have HB5:=ze (HB4.o.step hb5);clear hb5)|(go_at_call 274;(with_reducible refine(HBT.o _).mono ?_);rintro r w7 ⟨⟨more,rfl⟩,hb7⟩;clear HB7;have HB7:=ze (HB6.o.step hb7);clear hb7));clear HBT HAC HAP HE HB4 HB5 HB6;go_region_held3 (fun W=>Bs w W [(w.heap.size+1+1,[O U a,O U b]),(w.heap.size+1,cr.ls A n k),(w.heap.size,s.ls sA sn sk)]/\xD (O U a) (O U b) W (w.heap.size+1+1)/\cr.K A n k W (w.heap.size+1)/\s.K sA sn sk W (w.heap.size)) (first|(with_reducible exact MK.o _ HBX.o)|(with_reducible exact MK.o _ HB7.o.drew)) (first|(go_at_call 273;go_split_ands;(with_reducible refine(HDO.o _).mono ?_);rintro r wX ⟨⟨z1,rfl⟩,hbX⟩;have HBX:=ze (Bs.stp hbX (by assumption)))|(go_at_call 270;go_split_ands;(with_reducible refine(HFA.o _ _ _).mono ?_);rintro r wX ⟨⟨z2,rfl⟩,rfl⟩;have HBX:=ze (show Bs w _ [(w.heap.size+1+1,[O U a,O U b]),(w.heap.size+1,cr.ls A n k),(w.heap.size,s.ls sA sn sk)]from by assumption)));all_goals(go_split_ands;have HBF:=ze (show Bs w _ [(w.heap.size+1+1,[O U a,O U b]),(w.heap.size+1,cr.ls A n k),(w.heap.size,s.ls sA sn sk)]from by assumption);go_wp2_with fail;go_ret;exact⟨⟨_,rfl⟩,HBF.o.b⟩))
      |(go_wp2_with fail;go_ret;exact⟨⟨_,rfl⟩,HB4.o.b⟩)
abbrev JU(x:Int×Int):List Value:=[O U x.1,O U x.2]
structure Sts(w:World)(B:Nat)(A:Option Addr)(n:Nat)(L:List (Int×Int)):Prop where
 r:Rd w B 2 A n (L.flatMap JU)
 len:L.length=n
theorem Sts.below{w w':World}{B n:Nat}{A:Option Addr}{L:List (Int×Int)}(h:Sts w B A n L)(hb:Below B w w'):Sts w' B A n L:=⟨h.r.below hb,h.len⟩
theorem Sts.mono{w:World}{B B' n:Nat}{A:Option Addr}{L:List (Int×Int)}(h:Sts w B A n L)(hB:B<=B'):Sts w B' A n L:=⟨h.r.mono hB,h.len⟩
theorem Sts.at_{w:World}{B n:Nat}{A:Option Addr}{L:List (Int×Int)}(h:Sts w B A n L){i:Nat}(hi:i<n):
  ∃b off x,A=some ⟨b,off,none⟩/\b<B/\w.cell? ⟨b,off+i*2,none⟩=some (O U x.1)/\w.cell? ⟨b,off+i*2+1,none⟩=some (O U (Prod.snd x)):=by
 obtain⟨b,off,hA,hb,hc⟩:=h.r.at_ (by omega);have hg:L[i]?=some (L[i]'(by rw[h.len];exact hi)):=List.getElem?_eq_getElem _;generalize L[i]'(by rw[h.len];exact hi)=t at hg;have hf:∀ x,(JU x).length=2:=fun _=>rfl
 have g:=fun j(hj:j<2)=>flat_get hf L i j t hg hj
 have h0:=hc (i*2+0) _ ((g 0 (by omega)).trans rfl);exact⟨b,off,t,hA,hb,h0,(Nat.add_assoc off (i*2) 1).symm▸hc (i*2+1) _ ((g 1 (by omega)).trans rfl)⟩
theorem WT(s:Sc)(hs:s.ok)(sA:Option Addr)(sn sk:Nat)(A:Option Addr)(n k B:Nat)(L:List Ca)(tA:Option Addr)(tk:Nat)(M:List (Int×Int))(fl d:Int)(w:World)(h:Cas w B s.gap A n L)(hM:Sts w B tA n M)(hB:B<=w.heap.size)(hn:n<=1000)(f0:0<=fl)(f1:fl<=128)(ht:Tz w)(hD:5<w.heap.size):
  Calls prog 221 #[s.v sA sn sk,.slice A n k,.slice tA n tk,O J fl,O J d] w fun r w'=>RI r/\fj w w':=by
 have g0:=hs.gap.1;have g1:=hs.gap.2;have HB0:=ze (Bs.one w (s.ls sA sn sk) 25);have HL:=ze h;have HM:=ze hM;have HT:=ze (fun V(hb:fj w V)=>ht.below hb hD);clear h ht hM;go_enter func221,ntmps221;go_wp2_with fail
 go_loopw [11,17] (fun v i wr=>∃(j:Nat)(l:List Int),j<=n/\i=O J j/\l.length=j/\Own wr (w.heap.size+1) 3 1 (fa .i64) v l/\Bs w wr [(w.heap.size,s.ls sA sn sk)]) (fun _ i _=>n-(intOf i).toNat)
 case atStart=>exact⟨0,[],Nat.zero_le _,rfl,rfl,Own.nil _ _ _ _ _,HB0.o⟩
 case round=>
  obtain⟨j,l,hj,rfl,hl,hown,hb⟩:=hrel;have HO:=ze hown;have HB:=ze hb;have HLL:=ze hl;have hz:w.heap.size<wr.heap.size:=hb.lt (q:=w.heap.size) (l:=s.ls sA sn sk) (by simp);obtain⟨⟨s0,s1,s2,s3,s4,s5,s6,s7,s8,s9,s10,s11,s12⟩,-⟩:=(HB.o.cell (q:=w.heap.size) (l:=s.ls sA sn sk) (by simp)).o13;clear hown hb hl;by_cases hlt:j<n
  ·obtain⟨b,off,x,rfl,hbb,hx,hok,hri,c0,c1,c2,c3,c4,c5⟩:=((HL.o.below (HB.o.b.mono hB))).at_ hlt;obtain⟨b2,off2,y,rfl,hbb2,m0,m1⟩:=((HM.o.below (HB.o.b.mono hB))).at_ hlt;obtain⟨y0,y1⟩:=y;have i0:(0:Int)<=(j:Int):=by omega
   have i1:(j:Int)<(n:Int):=by omega
   have hb1:b<wr.heap.size:=by omega
   have hb2:b2<wr.heap.size:=by omega
   have hb3:b2<wr.heap.size+1:=by omega
   have HX:=ze hx;have HC:=ze (fun V(hb:fj w V)=>WS s hs sA sn sk x.c x.A x.n x.k y0 y1 fl d V hok.p0 (by have:=hok.p1;omega) f0 f1 (HT.o V hb) (by have:=hb.size;omega));clear hx hok hri;go_wp2_with(first
    |(go_at_call 249;(with_reducible refine(HC.o _ ((HB.o.b.alloc HB.o.b.size _).alloc (by simp;have:=HB.o.b.size;omega) _)).mono ?_);rintro r w1 ⟨⟨z,rfl⟩,hb1⟩;have hwr1:fj wr w1:=((fh.alloc fi _).alloc (by simp) _).trans (hb1.mono (by simp;omega));have HO1:=ze (HO.o.below hwr1);have HB1:=ze (HB.o.step hwr1);have hz1:=hwr1.size;have hl1:l.length<=1000000000:=(by have:=HLL.o;omega);clear hb1 hwr1 s0 s1 s2 s3 s4 s5 s6 s7 s8 s9 s10 s11 s12 c0 c1 c2 c3 c4 c5 m0 m1)
    |(at_builtin;refine push rfl _ _ 51 rfl underlying51 Ints.info rfl (by omega) (by omega) rfl (HO1.o.alloc _) z ⟨_,0,none⟩ 1 rfl rfl (cell_one_new _ _ _) (by simp[Value.oneCell']) hl1 (by simp;omega) ?_;intro v' w2 hown2 hb2))
   go_roundw
   case rel=>exact⟨j+1,l++[z],by omega,by go_num,by rw[List.length_append,HLL.o];rfl,hown2,(HB1.o.step (fh.alloc fi _)).stepB hb2 (by omega) (by simp)⟩
   case measure=>simp[intOf];omega
  ·obtain rfl:j=n:=by omega
   obtain⟨A2,c2,rfl,-,hrd⟩:=HO.o.ints;have hll:l.length<=1000000:=by have:=HLL.o;omega
   have HRD:=ze hrd;clear hrd;go_wp2_with(go_at_call 248;refine(uD A2 l.length c2 _ l _ HRD.o hll).mono ?_;rintro r w3 ⟨⟨z,rfl⟩,rfl⟩);go_ret;exact⟨⟨_,rfl⟩,HB.o.b⟩
def Tr.ok(t:Tr):Prop:=-1<=t.ar/\t.ar<=100000000/\-1<=t.bo/\t.bo<=100000000/\-1<=t.al/\t.al<=100000000
def waits(l:List Tr):List Int:=(l.filter dn).map fun t=>t.bo-t.ar
def zj(l:List Tr):List Int:=(l.filter dn).map fun t=>t.al-t.bo
theorem uE(A:Option Addr)(n k B:Nat)(l:List Tr)(w:World)(h:Trs w B A n l)(hB:B<=w.heap.size)(hn:n<=10000000)(hok:∀ t∈l,t.ok):
  Calls prog 13 #[.slice A n k] w fun e w'=>∃ v,e=.returned v/\Own w' w.heap.size 3 1 (fa .i64) v (waits l)/\fj w w':=by
 have hll:=h.2;have HD:=ze (J3 A n k B l w h hB hn);have HK:=ze hok;have hfl:=List.length_filter_le dn l;clear h hok;go_enter func13,ntmps13;go_wp2_with(go_at_call 33;refine HD.o.mono ?_;rintro e w1 ⟨v0,rfl,hown0,hb0⟩;obtain⟨A1,c1,rfl,-,htr⟩:=Own.trs hown0;have HR:=ze htr;have HB0:=ze hb0;have hz0:=hb0.size;clear hown0 htr hb0);generalize hD:l.filter dn=D at HR hfl⊢;generalize hm:D.length=m at HR hfl⊢
 go_loopw [3,9] (fun v i wr=>∃(j:Nat),j<=m/\i=O J j/\Own wr w1.heap.size 3 1 (fa .i64) v ((D.take j).map (fun t=>t.bo-t.ar))/\fj w1 wr) (fun _ i _=>m-(intOf i).toNat)
 case atStart=>exact⟨0,Nat.zero_le _,rfl,Own.nil _ _ _ _ _,fh⟩
 case round=>
  obtain⟨j,hj,rfl,hown,hb⟩:=hrel;have HO:=ze hown;have HB:=ze hb;have hz:=hb.size;clear hown hb;by_cases hlt:j<m
  ·obtain⟨b,off,r,rfl,hbb,hg,q0,q1,q2,q3,q4,q5,q6⟩:=(HR.o.below HB.o).at_ hlt;have i0:(0:Int)<=(j:Int):=by omega
   have i1:(j:Int)<(m:Int):=by omega
   have hr:r∈l:=(List.mem_filter.1 (show r∈l.filter dn from by rw[hD];exact List.mem_of_getElem? hg)).1;obtain⟨k0,k1,k2,k3,k4,k5⟩:=HK.o r hr;have HBB:=ze hbb;have HG:=ze hg;have hlen:((D.take j).map (fun t=>t.bo-t.ar)).length<=1000000000:=by rw[List.length_map,List.length_take];omega
   clear hg hbb hr;have HX:=ze ((show(D.take (j+1)).map (fun t=>t.bo-t.ar)=(D.take j).map (fun t=>t.bo-t.ar)++[(fun t=>t.bo-t.ar) r]from by rw[List.take_add_one,HG.o,List.map_append];simp));go_wp2_with(at_builtin;refine push rfl _ _ 51 rfl underlying51 Ints.info rfl (by omega) (by omega) rfl ((HO.o.alloc _).alloc _) (r.bo-r.ar) ⟨_,0,none⟩ 1 rfl rfl (zr _ _ [O J (r.bo-r.ar)] _ (by simp)) (by simp[Value.oneCell']) hlen (by simp;omega) ?_;intro v' w2 hown2 hb2);go_roundw
   case rel=>exact⟨j+1,by omega,by go_num,by rw[HX.o];exact hown2,((HB.o.alloc hz _).alloc (by simp;omega) _).trans hb2⟩
   case measure=>simp[intOf];omega
  ·obtain rfl:j=m:=by omega
   go_wp2_with fail;go_ret;exact⟨_,rfl,by have:=HO.o;rw[<-hm,List.take_length]at this;unfold waits;rw[hD];exact this.small hz0,HB0.o.trans (HB.o.mono hz0)⟩
theorem vx(A:Option Addr)(n k B:Nat)(l:List Tr)(w:World)(h:Trs w B A n l)(hB:B<=w.heap.size)(hn:n<=10000000)(hok:∀ t∈l,t.ok):
  Calls prog 14 #[.slice A n k] w fun e w'=>∃ v,e=.returned v/\Own w' w.heap.size 3 1 (fa .i64) v (zj l)/\fj w w':=by
 have hll:=h.2;have HD:=ze (J3 A n k B l w h hB hn);have HK:=ze hok;have hfl:=List.length_filter_le dn l;clear h hok;go_enter func14,ntmps14;go_wp2_with(go_at_call 33;refine HD.o.mono ?_;rintro e w1 ⟨v0,rfl,hown0,hb0⟩;obtain⟨A1,c1,rfl,-,htr⟩:=Own.trs hown0;have HR:=ze htr;have HB0:=ze hb0;have hz0:=hb0.size;clear hown0 htr hb0);generalize hD:l.filter dn=D at HR hfl⊢;generalize hm:D.length=m at HR hfl⊢
 go_loopw [3,9] (fun v i wr=>∃(j:Nat),j<=m/\i=O J j/\Own wr w1.heap.size 3 1 (fa .i64) v ((D.take j).map (fun t=>t.al-t.bo))/\fj w1 wr) (fun _ i _=>m-(intOf i).toNat)
 case atStart=>exact⟨0,Nat.zero_le _,rfl,Own.nil _ _ _ _ _,fh⟩
 case round=>
  obtain⟨j,hj,rfl,hown,hb⟩:=hrel;have HO:=ze hown;have HB:=ze hb;have hz:=hb.size;clear hown hb;by_cases hlt:j<m
  ·obtain⟨b,off,r,rfl,hbb,hg,q0,q1,q2,q3,q4,q5,q6⟩:=(HR.o.below HB.o).at_ hlt;have i0:(0:Int)<=(j:Int):=by omega
   have i1:(j:Int)<(m:Int):=by omega
   have hr:r∈l:=(List.mem_filter.1 (show r∈l.filter dn from by rw[hD];exact List.mem_of_getElem? hg)).1;obtain⟨k0,k1,k2,k3,k4,k5⟩:=HK.o r hr;have HBB:=ze hbb;have HG:=ze hg;have hlen:((D.take j).map (fun t=>t.al-t.bo)).length<=1000000000:=by rw[List.length_map,List.length_take];omega
   clear hg hbb hr;have HX:=ze ((show(D.take (j+1)).map (fun t=>t.al-t.bo)=(D.take j).map (fun t=>t.al-t.bo)++[(fun t=>t.al-t.bo) r]from by rw[List.take_add_one,HG.o,List.map_append];simp));go_wp2_with(at_builtin;refine push rfl _ _ 51 rfl underlying51 Ints.info rfl (by omega) (by omega) rfl ((HO.o.alloc _).alloc _) (r.al-r.bo) ⟨_,0,none⟩ 1 rfl rfl (zr _ _ [O J (r.al-r.bo)] _ (by simp)) (by simp[Value.oneCell']) hlen (by simp;omega) ?_;intro v' w2 hown2 hb2);go_roundw
   case rel=>exact⟨j+1,by omega,by go_num,by rw[HX.o];exact hown2,((HB.o.alloc hz _).alloc (by simp;omega) _).trans hb2⟩
   case measure=>simp[intOf];omega
  ·obtain rfl:j=m:=by omega
   go_wp2_with fail;go_ret;exact⟨_,rfl,by have:=HO.o;rw[<-hm,List.take_length]at this;unfold zj;rw[hD];exact this.small hz0,HB0.o.trans (HB.o.mono hz0)⟩
theorem yB(A:Option Addr)(n k B:Nat)(l:List Tr)(w:World)(h:Trs w B A n l)(hB:B<=w.heap.size)(hn:n<=10000000):
  Calls prog 11 #[.slice A n k] w fun e w'=>(∃a b c:Int,e=.returned (.tuple #[O J a,O J b,O J c])/\0<=a/\a<=n/\0<=b/\b<=n/\0<=c/\c<=n)/\fj w w':=by
 have HR:=ze h;have HN:=ze (Bx.new w [O J 0,O J 0,O J 0] 85);have HB0:=ze (show fj w (w.alloc (.cells #[O J 0,O J 0,O J 0] 85))from by go_grown);clear h;go_enter func11,ntmps11;go_wp2_with fail
 go_loopw [10] (fun i wr=>∃(j:Nat)(a b c:Int),j<=n/\i=O J j/\Bx wr w.heap.size [O J a,O J b,O J c]/\fj w wr/\0<=a/\a<=j/\0<=b/\b<=j/\0<=c/\c<=j) (fun i _=>n-(intOf i).toNat)
 case atStart=>exact⟨0,0,0,0,Nat.zero_le _,rfl,HN.o,HB0.o,by omega,by omega,by omega,by omega,by omega,by omega⟩
 case round=>
  obtain⟨j,a,b,c,hj,rfl,hbx,hb,ha0,ha1,hb0,hb1,hc0,hc1⟩:=hrel;have HX:=ze hbx;have HB:=ze hb;have hz:=hb.size;have hz1:=hbx.lt (by simp);obtain⟨⟨d0,d1,d2⟩,f0,f1,f2⟩:=hbx.o3;clear hbx hb;by_cases hlt:j<n
  ·obtain⟨b',off,r,rfl,hbb,hg,q0,q1,q2,q3,q4,q5,q6⟩:=(HR.o.below (HB.o.mono hB)).at_ hlt;have i0:(0:Int)<=(j:Int):=by omega
   have i1:(j:Int)<(n:Int):=by omega
   have HBB:=ze hbb;clear hg hbb;have hp:r.ph=0\/r.ph=1\/r.ph=2:=by
    unfold Tr.ph;split
    ·simp
    ·split<;>simp
   have HT:=ze (fun V=>JQ r V);rcases hp with hp|hp|hp
   ·rw[hp]at HT;clear d0 d1 d2 f0 f1 f2;go_wp2_with(go_at_call 32;refine(HT.o _).mono ?_;rintro e w1 ⟨rfl,hb1⟩;have HX1:=ze (HX.o.below ((fh.alloc fi _).trans (hb1.mono (by simp))) hz1);have HB1:=ze (show fj w w1 from(HB.o.alloc hz _).trans (hb1.mono (by simp;omega)));obtain⟨⟨d0,d1,d2⟩,f0,f1,f2⟩:=HX1.o.o3;clear hb1);go_roundw
    case rel=>exact⟨j+1,a+1,b,c,by omega,by go_num,by have:=HX1.o.set 0 (O J (a+1));simpa using this,HB1.o.setCell (p:=⟨w.heap.size,0,none⟩) fi _,by omega,by omega,by omega,by omega,by omega,by omega⟩
    case measure=>simp[intOf];omega
   ·rw[hp]at HT;clear d0 d1 d2 f0 f1 f2;go_wp2_with(go_at_call 32;refine(HT.o _).mono ?_;rintro e w1 ⟨rfl,hb1⟩;have HX1:=ze (HX.o.below ((fh.alloc fi _).trans (hb1.mono (by simp))) hz1);have HB1:=ze (show fj w w1 from(HB.o.alloc hz _).trans (hb1.mono (by simp;omega)));obtain⟨⟨d0,d1,d2⟩,f0,f1,f2⟩:=HX1.o.o3;clear hb1);go_roundw
    case rel=>exact⟨j+1,a,b+1,c,by omega,by go_num,by have:=HX1.o.set 1 (O J (b+1));simpa using this,HB1.o.setCell (p:=⟨w.heap.size,1,none⟩) fi _,by omega,by omega,by omega,by omega,by omega,by omega⟩
    case measure=>simp[intOf];omega
   ·rw[hp]at HT;clear d0 d1 d2 f0 f1 f2;go_wp2_with(go_at_call 32;refine(HT.o _).mono ?_;rintro e w1 ⟨rfl,hb1⟩;have HX1:=ze (HX.o.below ((fh.alloc fi _).trans (hb1.mono (by simp))) hz1);have HB1:=ze (show fj w w1 from(HB.o.alloc hz _).trans (hb1.mono (by simp;omega)));obtain⟨⟨d0,d1,d2⟩,f0,f1,f2⟩:=HX1.o.o3;clear hb1);go_roundw
    case rel=>exact⟨j+1,a,b,c+1,by omega,by go_num,by have:=HX1.o.set 2 (O J (c+1));simpa using this,HB1.o.setCell (p:=⟨w.heap.size,2,none⟩) fi _,by omega,by omega,by omega,by omega,by omega,by omega⟩
    case measure=>simp[intOf];omega
  ·obtain rfl:j=n:=by omega
   go_wp2_with fail;go_quiet(fail);go_wp2_with fail;go_ret3;exact⟨⟨c,b,a,rfl,by omega,by omega,by omega,by omega,by omega,by omega⟩,zg HB.o _⟩
theorem Kh(A:Option Addr)(n k B:Nat)(l:List Tr)(u:Int)(w:World)(h:Trs w B A n l)(hB:B<=w.heap.size)(hn:n<=1000000)(hok:∀ t∈l,t.ok)(hu0:0<=u)(hu1:u<=100000000):
  Calls prog 198 #[.slice A n k,O J u] w fun e w'=>(∃a:Int,e=.returned (O J a)/\0<=a/\a<=n*u)/\fj w w':=by
 have HR:=ze h;have HK:=ze hok;have hll:=h.2;clear h hok;go_enter func198,ntmps198;go_wp2_with fail
 go_loopw [5,11] (fun s i wr=>∃(j:Nat)(m:Int),j<=n/\i=O J j/\s=O J m/\0<=m/\m<=j*u/\fj w wr) (fun _ i _=>n-(intOf i).toNat)
 case atStart=>exact⟨0,0,Nat.zero_le _,rfl,rfl,by omega,by simp,fh⟩
 case round=>
  obtain⟨j,m,hj,rfl,rfl,hm0,hm1,hb⟩:=hrel;have HB:=ze hb;have hz:=hb.size;clear hb;have hju:((j:Int)+1)*u=j*u+u:=by rw[Int.add_mul,Int.one_mul]
  have hjb:(j:Int)*u<=1000000*100000000:=Int.mul_le_mul (by omega) hu1 hu0 (by omega);by_cases hlt:j<n
  ·obtain⟨b,off,r,rfl,hbb,hg,q0,q1,q2,q3,q4,q5,q6⟩:=(HR.o.below (HB.o.mono hB)).at_ hlt;have i0:(0:Int)<=(j:Int):=by omega
   have i1:(j:Int)<(n:Int):=by omega
   obtain⟨k0,k1,k2,k3,k4,k5⟩:=HK.o r (List.mem_of_getElem? hg);have HBB:=ze hbb;clear hg hbb;go_wp2_with fail
   all_goals go_roundw
   all_goals first
    |exact⟨j+1,_,by omega,by go_num,rfl,by omega,by push_cast;rw[hju];omega,HB.o.alloc hz _⟩
    |(simp[intOf];omega)
  ·obtain rfl:j=n:=by omega
   go_wp2_with fail;go_ret;exact⟨⟨_,rfl,hm0,hm1⟩,HB.o⟩
structure StopP(a b c d e f fl dir:Int):Prop where
 z:dir=0->zF c d e f fl 1=false/\zF c d e f fl (-1)=false
 g:dir≠0->zF c d e f fl dir=false/\(zF c d e f fl (-dir)=true->jx a b fl dir=true)
theorem StopP.next{a b c d e f fl dir:Int}(h:StopP a b c d e f fl dir)(hd: -1<=dir)(hd1:dir<=1)(h0:qD a b c d e f fl dir≠0):
  (qD a b c d e f fl dir=1\/qD a b c d e f fl dir=-1)/\jx a b fl (qD a b c d e f fl dir)=true:=by
 have hx:dir=0\/dir≠0:=by omega
 rcases hx with hx|hx
 ·obtain⟨h1,h2⟩:=h.z hx;subst hx;have he:qD a b c d e f fl 0=if jx a b fl 1=true then 1 else if jx a b fl (-1)=true then -1 else 0:=by unfold qD;simp[h1,h2]
  rw[he]at h0⊢;by_cases h3:jx a b fl 1=true
  ·rw[if_pos h3]at*;exact⟨.inl rfl,h3⟩
  ·rw[if_neg h3]at*;by_cases h4:jx a b fl (-1)=true
   ·rw[if_pos h4]at*;exact⟨.inr rfl,h4⟩
   ·rw[if_neg h4]at*;exact absurd rfl h0
 ·obtain⟨h1,h2⟩:=h.g hx;have he:qD a b c d e f fl dir=if jx a b fl dir=true then dir else if zF c d e f fl (-dir)=true\/jx a b fl (-dir)=true then -dir else 0:=by unfold qD;simp[h1,hx]
  rw[he]at h0⊢;by_cases h3:jx a b fl dir=true
  ·rw[if_pos h3]at*;exact⟨by omega,h3⟩
  ·rw[if_neg h3]at*;by_cases h4:zF c d e f fl (-dir)=true\/jx a b fl (-dir)=true
   ·rw[if_pos h4]at*;rcases h4 with h4|h4
    ·exact absurd (h2 h4) h3
    ·exact⟨by omega,h4⟩
   ·rw[if_neg h4]at*;exact absurd rfl h0
def du(a b c d e f fl dir:Int)(r:Ending):Prop:=∃ x:Bool,r=.returned (.bool x)/\(x=false->StopP a b c d e f fl dir)
theorem Ur(a b c d e f fl:Int)(cr:Cr)(A:Option Addr)(n k B:Nat)(l:List Rid)(w:World)(h:Rds w B A n l)(hB:B<=w.heap.size)(hn:n<=1000000)(hf: -1000<=fl)(hf1:fl<=1000000)(hd: -1<=cr.dir)(hd1:cr.dir<=1):
  Calls prog 230 #[qI a b c d e f,cr.v A n k,O J fl] w fun r w'=>du a b c d e f fl cr.dir r/\fj w w':=by
 have HR:=ze h;have HB0:=ze (show fj w ((w.alloc (.cells (vF a b c d e f) 366)).alloc (.cells (cr.cells A n k) 265))from by go_grown);have HB2:=ze (Bx.two w [O U a,O U b,O U c,O U d,O U e,O U f] [O J cr.pos,O J cr.dir,O J cr.mode,O J cr.left,.bool cr.wt,.slice A n k] 366 265 (by simp));have HC:=ze (fun(D:Int)(V:World)=>qP a b c d e f fl D V);have HBY:=ze (fun(D:Int)(V:World)=>jT a b c d e f fl D V hf hf1);have HRD:=ze (fun(V:World)(hb:fj w V)=>vM cr A n k B l V (h.below (hb.mono hB)) (by have:=hb.size;omega) hn);clear h;go_enter func230,ntmps230;go_upto_region 1 with(fail)
 go_upto_if 7 with(first
  |(go_at_call 257;refine(ki x y fl _).mono ?_;rintro r w2 ⟨rfl,hb2⟩;have HW2:=ze (HW1.o.trans (hb2.mono HW1.o.size));have S2':=ze (S1.o.below hb2 (by omega));have C2':=ze (C1.o.below hb2 (by omega));have hz2:=hb2.size;clear hb2)
  |(go_at_call 251;refine(HRD.o _ HB0.o).mono ?_;rintro r w1 ⟨⟨x,y,rfl⟩,hb1⟩;have HW1:=ze (HB0.o.trans (hb1.mono (by simp;omega)));have S1:=ze (HB2.o.1.below hb1 (by simp;omega));have C1:=ze (HB2.o.2.below hb1 (by simp));have hz1:w.heap.size+1<w1.heap.size:=(by have:=hb1.size;simp at this;omega);clear hb1))
 have HW:=ze HW2.o;have HS:=ze S2'.o;have HCR:=ze C2'.o;have hz:w.heap.size+1<w2.heap.size:=by omega
 obtain⟨⟨a0,a1,a2,a3,a4,a5⟩,-⟩:=HS.o.o6;obtain⟨⟨d0,d1,d2,d3,d4,d5⟩,-⟩:=HCR.o.o6;clear HW1 S1 C1 HW2 S2' C2' HB0 HB2 HRD hz1 hz2;rcases Bool.eq_false_or_eq_true (kL x y fl)with hx|hx
 ·rw[hx];go_wp2_with fail;go_ret;exact⟨⟨true,rfl,fun h=>by cases h⟩,HW.o⟩
 ·rw[hx];clear hx;by_cases h0:cr.dir=0
  ·rw[h0]at d1;rcases Bool.eq_false_or_eq_true (zF c d e f fl 1)with hy|hy
   ·go_wp2_with(go_at_call 255;refine(HC.o 1 _).mono ?_;rintro r w3 ⟨rfl,hb3⟩;rw[hy]);go_ret;exact⟨⟨true,rfl,fun h=>by cases h⟩,HW.o.trans (hb3.mono HW.o.size)⟩
   ·go_wp2_with(first
     |(go_at_call 255;with_reducible refine(HC.o (-1) _).mono ?_;rintro r w4 ⟨rfl,hb4⟩)
     |(go_at_call 255;with_reducible refine(HC.o 1 _).mono ?_;rintro r w3 ⟨rfl,hb3⟩;rw[hy];have HW3:=ze (HW.o.trans (hb3.mono HW.o.size));have S3:=ze (HS.o.below hb3 (by omega));clear hb3 a0 a1 a2 a3 a4 a5;obtain⟨⟨a0,a1,a2,a3,a4,a5⟩,-⟩:=S3.o.o6))
    go_ret;exact⟨⟨_,rfl,fun h=>⟨fun _=>⟨hy,h⟩,fun h2=>absurd h0 h2⟩⟩,HW3.o.trans (hb4.mono HW3.o.size)⟩
  ·rcases Bool.eq_false_or_eq_true (zF c d e f fl cr.dir)with hy|hy
   ·go_wp2_with(go_at_call 255;refine(HC.o cr.dir _).mono ?_;rintro r w3 ⟨rfl,hb3⟩;rw[hy]);go_ret;exact⟨⟨true,rfl,fun h=>by cases h⟩,HW.o.trans (hb3.mono HW.o.size)⟩
   ·have hneg:cr.dir≠-cr.dir:=by omega
    rcases Bool.eq_false_or_eq_true (zF c d e f fl (-cr.dir))with hv|hv
    ·go_wp2_with(first
      |(go_at_call 256;with_reducible refine(HBY.o cr.dir _).mono ?_;rintro r w5 ⟨rfl,hb5⟩)
      |(go_at_call 255;with_reducible refine(HC.o (-cr.dir) _).mono ?_;rintro r w4 ⟨rfl,hb4⟩;rw[hv];have HW4:=ze (HW3.o.trans (hb4.mono HW3.o.size));have S4:=ze (S3.o.below hb4 (by omega));have C4:=ze (C3.o.below hb4 (by omega));clear hb4 a0 a1 a2 a3 a4 a5 d0 d1 d2 d3 d4 d5;obtain⟨⟨a0,a1,a2,a3,a4,a5⟩,-⟩:=S4.o.o6;obtain⟨⟨d0,d1,d2,d3,d4,d5⟩,-⟩:=C4.o.o6)
      |(go_at_call 255;with_reducible refine(HC.o cr.dir _).mono ?_;rintro r w3 ⟨rfl,hb3⟩;rw[hy];have HW3:=ze (HW.o.trans (hb3.mono HW.o.size));have S3:=ze (HS.o.below hb3 (by omega));have C3:=ze (HCR.o.below hb3 (by omega));have hz3:=hb3.size;clear hb3 a0 a1 a2 a3 a4 a5 d0 d1 d2 d3 d4 d5;obtain⟨⟨a0,a1,a2,a3,a4,a5⟩,-⟩:=S3.o.o6;obtain⟨⟨d0,d1,d2,d3,d4,d5⟩,-⟩:=C3.o.o6))
     go_ret;exact⟨⟨_,rfl,fun h=>⟨fun h2=>absurd h2 h0,fun _=>⟨hy,fun _=>by simpa using h⟩⟩⟩,HW4.o.trans (hb5.mono HW4.o.size)⟩
    ·go_wp2_with(first
      |(go_at_call 255;with_reducible refine(HC.o (-cr.dir) _).mono ?_;rintro r w4 ⟨rfl,hb4⟩;rw[hv])
      |(go_at_call 255;with_reducible refine(HC.o cr.dir _).mono ?_;rintro r w3 ⟨rfl,hb3⟩;rw[hy];have HW3:=ze (HW.o.trans (hb3.mono HW.o.size));have S3:=ze (HS.o.below hb3 (by omega));have C3:=ze (HCR.o.below hb3 (by omega));have hz3:=hb3.size;clear hb3 a0 a1 a2 a3 a4 a5 d0 d1 d2 d3 d4 d5;obtain⟨⟨a0,a1,a2,a3,a4,a5⟩,-⟩:=S3.o.o6;obtain⟨⟨d0,d1,d2,d3,d4,d5⟩,-⟩:=C3.o.o6))
     go_ret;exact⟨⟨false,rfl,fun h=>⟨fun h2=>absurd h2 h0,fun _=>⟨hy,fun h3=>by rw[hv]at h3;cases h3⟩⟩⟩,HW3.o.trans (hb4.mono HW3.o.size)⟩
theorem Jo(w:World)(cr:Cr)(A:Option Addr)(n k:Nat)(x0 x1 y0 y1:Int)(l:List Value)(hl:0<l.length)(t1 t2 t3 t4:TypeId):
  Boxes w ((((w.alloc (.cells (cr.cells A n k) t1)).alloc (.cells #[O U x0,O U x1] t2)).alloc (.cells #[O U y0,O U y1] t3)).alloc (.cells l.toArray t4)) 3 [(w.heap.size,[O J cr.pos,O J cr.dir,O J cr.mode,O J cr.left,.bool cr.wt,.slice A n k]),(w.heap.size+1,[O U x0,O U x1]),(w.heap.size+1+1,[O U y0,O U y1])] (w.heap.size+1+1+1)/\Bx ((((w.alloc (.cells (cr.cells A n k) t1)).alloc (.cells #[O U x0,O U x1] t2)).alloc (.cells #[O U y0,O U y1] t3)).alloc (.cells l.toArray t4)) (w.heap.size+1+1+1) l:=by
 have e1:=Bx.new w [O J cr.pos,O J cr.dir,O J cr.mode,O J cr.left,.bool cr.wt,.slice A n k] t1;have e2:=Bx.at_size (w:=w.alloc (.cells (cr.cells A n k) t1)) (l:=[O U x0,O U x1]) (ty:=t2) (q:=w.heap.size+1) (by simp);have e3:=Bx.at_size (w:=(w.alloc (.cells (cr.cells A n k) t1)).alloc (.cells #[O U x0,O U x1] t2)) (l:=[O U y0,O U y1]) (ty:=t3) (q:=w.heap.size+1+1) (by simp);have e4:=Bx.at_size (w:=((w.alloc (.cells (cr.cells A n k) t1)).alloc (.cells #[O U x0,O U x1] t2)).alloc (.cells #[O U y0,O U y1] t3)) (l:=l) (ty:=t4) (q:=w.heap.size+1+1+1) (by simp);refine⟨⟨by go_grown,by simp,?_,by omega⟩,e4⟩;intro p hp;simp only[List.mem_cons,List.not_mem_nil,or_false]at hp;rcases hp with rfl|rfl|rfl
 ·exact⟨by simp only;omega,by simp only;omega,((e1.alloc (by simp) _).alloc (by simp) _).alloc (by simp) _⟩
 ·exact⟨by simp only;omega,by simp only;omega,(e2.alloc (by simp) _).alloc (by simp) _⟩
 ·exact⟨by simp only;omega,by simp only;omega,e3.alloc (by simp) _⟩
theorem bf(cr:Cr)(A:Option Addr)(n k B:Nat)(l:List Rid)(cap x0 x1 y0 y1:Int)(w:World)(h:Rds w B A n l)(hB:B<=w.heap.size)(hn:n<=1000000):
  Calls prog 253 #[cr.v A n k,O J cap,zy x0 x1,zy y0 y1] w fun r w'=>QU r/\fj w w':=by
 have HS0:=ze (Jo w cr A n k x0 x1 y0 y1 [O U 0,O U 0] (by decide) 265 325 325 325);have HRD:=ze (fun(V:World)(hb:fj w V)=>vM cr A n k B l V (h.below (hb.mono hB)) (by have:=hb.size;omega) hn);have HLD:=ze (fun(V:World)(a b:Int)=>uy cr A n k cap a b V);have HOR:=ze (fun(V:World)(a b c d:Int)=>VB a b c d V);clear h;go_enter func253,ntmps253;go_wp2_with fail;refine j9 (w:=w) (fun W=>Boxes w W 3 [(w.heap.size,[O J cr.pos,O J cr.dir,O J cr.mode,O J cr.left,.bool cr.wt,.slice A n k]),(w.heap.size+1,[O U x0,O U x1]),(w.heap.size+1+1,[O U y0,O U y1])] (w.heap.size+1+1+1)/\Bx W (w.heap.size+1+1+1) [O U 0,O U 0]) HS0.o HS0.o.1.b (by have:=HS0.o.1.z;omega) ?_;rintro W hs0 hbW hzW;clear HS0 hbW hzW;have HS0:=ze hs0.1;have HR:=ze hs0.2.drew;clear hs0;have MK:=ze (fun(W:World)(h:Boxes w W 3 [(w.heap.size,[O J cr.pos,O J cr.dir,O J cr.mode,O J cr.left,.bool cr.wt,.slice A n k]),(w.heap.size+1,[O U x0,O U x1]),(w.heap.size+1+1,[O U y0,O U y1])] (w.heap.size+1+1+1))=>(show Boxes w W 3 [(w.heap.size,[O J cr.pos,O J cr.dir,O J cr.mode,O J cr.left,.bool cr.wt,.slice A n k]),(w.heap.size+1,[O U x0,O U x1]),(w.heap.size+1+1,[O U y0,O U y1])] (w.heap.size+1+1+1)/\cr.K A n k W (w.heap.size)/\xD (O U x0) (O U x1) W (w.heap.size+1)/\xD (O U y0) (O U y1) W (w.heap.size+1+1)from⟨h,(h.cell (q:=w.heap.size) (l:=[O J cr.pos,O J cr.dir,O J cr.mode,O J cr.left,.bool cr.wt,.slice A n k]) (by simp)).k6 rfl,(h.cell (q:=w.heap.size+1) (l:=[O U x0,O U x1]) (by simp)).k2,(h.cell (q:=w.heap.size+1+1) (l:=[O U y0,O U y1]) (by simp)).k2⟩))
 go_region_held3 (fun W=>Boxes w W 3 [(w.heap.size,[O J cr.pos,O J cr.dir,O J cr.mode,O J cr.left,.bool cr.wt,.slice A n k]),(w.heap.size+1,[O U x0,O U x1]),(w.heap.size+1+1,[O U y0,O U y1])] (w.heap.size+1+1+1)/\cr.K A n k W (w.heap.size)/\xD (O U x0) (O U x1) W (w.heap.size+1)/\xD (O U y0) (O U y1) W (w.heap.size+1+1))
  (first|(with_reducible exact MK.o _ HBX.o)|(with_reducible exact MK.o _ (Boxes.set 1 _ (Boxes.set 0 _ HBX.o)))|(with_reducible exact MK.o _ HS0.o.drew))
  (first
   |(go_at_call 250;go_split_ands;(with_reducible refine(HOR.o _ _ _ _ _).mono ?_);rintro r wX ⟨⟨o0,o1,rfl⟩,hbX⟩;have HR:=ze (Boxes.rest (by assumption) HR.o hbX);(try clear j0 j1 i0 i1);obtain⟨⟨j0,j1⟩,i0,i1⟩:=HR.o.o2;have HBX:=ze (Boxes.step hbX (by assumption)))
   |(go_at_call 251;go_split_ands;(with_reducible refine(HRD.o _ (Boxes.b (by assumption))).mono ?_);rintro r wX ⟨⟨u0,u1,rfl⟩,hbX⟩;have HR:=ze (Boxes.rest (by assumption) HR.o hbX);(try clear j0 j1 i0 i1);obtain⟨⟨j0,j1⟩,i0,i1⟩:=HR.o.o2;have HBX:=ze (Boxes.step hbX (by assumption)))
   |(go_at_call 254;go_split_ands;(with_reducible refine(HLD.o _ _ _).mono ?_);rintro r wX ⟨⟨v0,v1,rfl⟩,hbX⟩;have HR:=ze (Boxes.rest (by assumption) HR.o hbX);(try clear j0 j1 i0 i1);obtain⟨⟨j0,j1⟩,i0,i1⟩:=HR.o.o2;have HBX:=ze (Boxes.step hbX (by assumption))))
 all_goals
  go_split_ands;go_wp2_with fail;refine bodyPost_ret (v:=zy _ _) (by rw[zi rfl];go_simp;exact⟨rfl,rfl⟩) rfl ?_;exact⟨⟨_,_,rfl⟩,(Boxes.set 1 _ (Boxes.set 0 _ HBX.o)).b⟩
def cK(e:Ending):Prop:=∃ a b c d e' f:Int,e=.returned (qI a b c d e' f)
theorem kU(cr:Cr)(A:Option Addr)(n k B:Nat)(l:List Rid)(cap x0 x1 y0 y1:Int)(w:World)(h:Rds w B A n l)(hB:B<=w.heap.size)(hn:n<=1000000):
  Calls prog 228 #[cr.v A n k,O J cap,zy x0 x1,zy y0 y1] w fun r w'=>cK r/\fj w w':=by
 have HS0:=ze (Jo w cr A n k x0 x1 y0 y1 [O U 0,O U 0,O U 0,O U 0,O U 0,O U 0] (by decide) 265 325 325 366);have HOF:=ze (fun(V:World)(hb:fj w V)=>bf cr A n k B l cap x0 x1 y0 y1 V (h.below (hb.mono hB)) (by have:=hb.size;omega) hn);have HLD:=ze (fun(V:World)(a b:Int)=>uy cr A n k cap a b V);clear h;go_enter func228,ntmps228;go_wp2_with fail;refine j9 (w:=w) (fun W=>Boxes w W 3 [(w.heap.size,[O J cr.pos,O J cr.dir,O J cr.mode,O J cr.left,.bool cr.wt,.slice A n k]),(w.heap.size+1,[O U x0,O U x1]),(w.heap.size+1+1,[O U y0,O U y1])] (w.heap.size+1+1+1)/\Bx W (w.heap.size+1+1+1) [O U 0,O U 0,O U 0,O U 0,O U 0,O U 0]) HS0.o HS0.o.1.b (by have:=HS0.o.1.z;omega) ?_;rintro W hs0 hbW hzW;clear HS0 hbW hzW;have HS0:=ze hs0.1;have HR:=ze hs0.2.drew;clear hs0;have MK:=ze (fun(W:World)(h:Boxes w W 3 [(w.heap.size,[O J cr.pos,O J cr.dir,O J cr.mode,O J cr.left,.bool cr.wt,.slice A n k]),(w.heap.size+1,[O U x0,O U x1]),(w.heap.size+1+1,[O U y0,O U y1])] (w.heap.size+1+1+1))=>(show Boxes w W 3 [(w.heap.size,[O J cr.pos,O J cr.dir,O J cr.mode,O J cr.left,.bool cr.wt,.slice A n k]),(w.heap.size+1,[O U x0,O U x1]),(w.heap.size+1+1,[O U y0,O U y1])] (w.heap.size+1+1+1)/\cr.K A n k W (w.heap.size)/\xD (O U x0) (O U x1) W (w.heap.size+1)/\xD (O U y0) (O U y1) W (w.heap.size+1+1)from⟨h,(h.cell (q:=w.heap.size) (l:=[O J cr.pos,O J cr.dir,O J cr.mode,O J cr.left,.bool cr.wt,.slice A n k]) (by simp)).k6 rfl,(h.cell (q:=w.heap.size+1) (l:=[O U x0,O U x1]) (by simp)).k2,(h.cell (q:=w.heap.size+1+1) (l:=[O U y0,O U y1]) (by simp)).k2⟩))
 go_region_held3 (fun W=>Boxes w W 3 [(w.heap.size,[O J cr.pos,O J cr.dir,O J cr.mode,O J cr.left,.bool cr.wt,.slice A n k]),(w.heap.size+1,[O U x0,O U x1]),(w.heap.size+1+1,[O U y0,O U y1])] (w.heap.size+1+1+1)/\cr.K A n k W (w.heap.size)/\xD (O U x0) (O U x1) W (w.heap.size+1)/\xD (O U y0) (O U y1) W (w.heap.size+1+1))
  (first|(with_reducible exact MK.o _ HBX.o)|(with_reducible exact MK.o _ (Boxes.set 5 _ (Boxes.set 4 _ (Boxes.set 3 _ (Boxes.set 2 _ (Boxes.set 1 _ (Boxes.set 0 _ HBX.o)))))))|(with_reducible exact MK.o _ HS0.o.drew))
  (first
   |(go_at_call 253;go_split_ands;(with_reducible refine(HOF.o _ (Boxes.b (by assumption))).mono ?_);rintro r wX ⟨⟨u0,u1,rfl⟩,hbX⟩;have HR:=ze (Boxes.rest (by assumption) HR.o hbX);(try clear j0 j1 j2 j3 j4 j5 i0 i1 i2 i3 i4 i5);obtain⟨⟨j0,j1,j2,j3,j4,j5⟩,i0,i1,i2,i3,i4,i5⟩:=HR.o.o6;have HBX:=ze (Boxes.step hbX (by assumption)))
   |(go_at_call 254;go_split_ands;(with_reducible refine(HLD.o _ _ _).mono ?_);rintro r wX ⟨⟨v0,v1,rfl⟩,hbX⟩;have HR:=ze (Boxes.rest (by assumption) HR.o hbX);(try clear j0 j1 j2 j3 j4 j5 i0 i1 i2 i3 i4 i5);obtain⟨⟨j0,j1,j2,j3,j4,j5⟩,i0,i1,i2,i3,i4,i5⟩:=HR.o.o6;have HBX:=ze (Boxes.step hbX (by assumption))))
 all_goals
  go_split_ands;go_wp2_with fail;refine bodyPost_ret (v:=qI _ _ _ _ _ _) (by rw[zi rfl];go_simp;exact⟨rfl,rfl,rfl,rfl,rfl,rfl⟩) rfl ?_;exact⟨⟨_,_,_,_,_,_,rfl⟩,(Boxes.set 5 _ (Boxes.set 4 _ (Boxes.set 3 _ (Boxes.set 2 _ (Boxes.set 1 _ (Boxes.set 0 _ HBX.o)))))).b⟩
theorem Yp{k k':IntKind}{a b c d:Int}(h:a=b)(h':c=d):Ending.returned (.tuple #[.int k a,.int k' c])=Ending.returned (.tuple #[.int k b,.int k' d]):=by rw[h,h']
structure Plc(p g f r:Int):Prop where
 e:p=f*g+r
 f0:0<=f
 f1:f<=127
 r0:0<=r
 r1:r<g
 l:f=127->r=0
theorem dv(p g:Int)(g0:1<=g)(g1:g<=16)(p0:0<=p)(p1:p<=127*g):Plc p g (p/g) (p%g):=by
 have h:=Int.emod_add_mul_ediv p g;have hr0:=Int.emod_nonneg p (show g≠0 by omega);have hr1:=Int.emod_lt_of_pos p (show 0<g by omega);have hf0:0<=p/g:=Int.ediv_nonneg p0 (by omega);have hf1:p/g<=127:=by
  have:p/g<128:=(Int.ediv_lt_iff_lt_mul (by omega)).2 (by omega);omega
 refine⟨?_,hf0,hf1,hr0,hr1,fun h127=>?_⟩
 ·rw[Int.mul_comm];omega
 ·rw[h127]at h;omega
theorem Plc.rng{p g f r:Int}(h:Plc p g f r)(g0:1<=g)(g1:g<=16):0<=f*g/\f*g<=2032/\(r≠0->(f+1)*g<=2032/\0<=(f+1)*g)/\0<=p/\p<=2032/\p<=127*g:=by
 have h1:f*g<=127*g:=Int.mul_le_mul_of_nonneg_right h.f1 (by omega);have h2:0<=f*g:=Int.mul_nonneg h.f0 (by omega);have h3:=h.r0;have h4:=h.r1;have h5:=h.e;have key:r≠0->(f+1)*g<=127*g:=fun hr=>Int.mul_le_mul_of_nonneg_right (by
  have:=h.f1;have h6:f≠127:=fun e=>hr (h.l e)
  omega) (by omega)
 have e1:(f+1)*g=f*g+g:=by rw[Int.add_mul,Int.one_mul]
 have h7:p<=127*g:=by
  by_cases hr:r=0
  ·omega
  ·have:=key hr;omega
 refine⟨h2,by omega,fun hr=>?_,by omega,by omega,h7⟩;have:=key hr;omega
def dx(g f r dir:Int):Int:=if r=0 then 0 else if 0<dir then g-r else r
def dy(f r dir:Int):Int:=if r=0 then f else if 0<dir then f+1 else f
theorem Xp(p g f r dir:Int)(w:World)(h:Plc p g f r)(g0:1<=g)(g1:g<=16):Calls prog 283 #[O J p,O J g,O J dir] w (fk (.tuple #[O J (dx g f r dir),O J (dy f r dir)]) w):=by
 have hr:=h.rng g0 g1;have HF:=ze (fun V=>jB p g f r V h.e h.f0 h.r0 h.r1 (by omega));have hf0:=h.f0;have hf1:=h.f1;have hr0:=h.r0;have hr1:=h.r1;have he:=h.e;have e1:(f+1)*g=f*g+g:=by rw[Int.add_mul,Int.one_mul]
 unfold dx dy;by_cases h0:r=0
 ·rw[if_pos h0,if_pos h0];have hd:=decide_eq_true h0;clear he;go_enter func283,ntmps283;go_wp2_with(go_at_call 227;refine(HF.o _).mono ?_;rintro e w1 ⟨rfl,m,rfl⟩;rw[hd]);go_ret2;exact⟨rfl,zg fh _⟩
 ·rw[if_neg h0,if_neg h0];have hd:=decide_eq_false h0;by_cases h1:0<dir
  ·rw[if_pos h1,if_pos h1];have hA:=ze (fun V=>kP (f+1) g ((f+1)*g) V rfl (by omega) (by omega));have ew:(f+1)*g-p=g-r:=by omega
   clear he;go_enter func283,ntmps283;go_wp2_with(first|(go_at_call 227;refine(HF.o _).mono ?_;rintro e w1 ⟨rfl,m,rfl⟩;rw[hd])|(go_at_call 176;refine(hA.o _).mono ?_;rintro e w2 ⟨rfl,rfl⟩));go_ret2;exact⟨Yp (by omega) rfl,zg fh _⟩
  ·rw[if_neg h1,if_neg h1];have hA:=ze (fun V=>kP f g (f*g) V rfl (by omega) (by omega));have ew:p-f*g=r:=by omega
   clear he;go_enter func283,ntmps283;go_wp2_with(first|(go_at_call 227;refine(HF.o _).mono ?_;rintro e w1 ⟨rfl,m,rfl⟩;rw[hd])|(go_at_call 176;refine(hA.o _).mono ?_;rintro e w2 ⟨rfl,rfl⟩));go_ret2;exact⟨Yp (by omega) rfl,zg fh _⟩
def aft(c:Cr)(k:Int):Cr:=if c.mode=2\/c.mode=3\/c.mode=4 then{c with left:=c.left-k}else if c.mode=1 then{c with pos:=c.pos+c.dir*k}else c
theorem KM(c:Cr)(A:Option Addr)(n m:Nat)(k:Int)(w:World)(hl: -1000000000<=c.left-k)(hl1:c.left-k<=1000000000)(hd: -1000000000<=c.dir*k)(hd1:c.dir*k<=1000000000)(hp: -1000000000<=c.pos)(hp1:c.pos<=1000000000):
  Calls prog 184 #[c.v A n m,O J k] w (fk ((aft c k).v A n m) w):=by
 have ew0:IntKind.i64.wrap (c.left-k)=c.left-k:=by rw[IntKind.wrap_i64];omega
 have ew1:IntKind.i64.wrap (c.dir*k)=c.dir*k:=by rw[IntKind.wrap_i64];omega
 have ew2:IntKind.i64.wrap (c.pos+c.dir*k)=c.pos+c.dir*k:=by rw[IntKind.wrap_i64];omega
 by_cases h2:c.mode=2
 ·have hv:aft c k={c with left:=c.left-k}:=by unfold aft;rw[if_pos (.inl h2)]
  rw[hv];clear hv;go_enter func184,ntmps184;go_wp2_with fail;refine bodyPost_ret (v:=Cr.v {c with left:=c.left-k} A n m) (by rw[zi rfl];go_simp) rfl ?_;exact⟨rfl,by go_grown⟩
 by_cases h3:c.mode=3
 ·have hv:aft c k={c with left:=c.left-k}:=by unfold aft;rw[if_pos (.inr (.inl h3))]
  rw[hv];clear hv;go_enter func184,ntmps184;go_wp2_with fail;refine bodyPost_ret (v:=Cr.v {c with left:=c.left-k} A n m) (by rw[zi rfl];go_simp) rfl ?_;exact⟨rfl,by go_grown⟩
 by_cases h4:c.mode=4
 ·have hv:aft c k={c with left:=c.left-k}:=by unfold aft;rw[if_pos (.inr (.inr h4))]
  rw[hv];clear hv;go_enter func184,ntmps184;go_wp2_with fail;refine bodyPost_ret (v:=Cr.v {c with left:=c.left-k} A n m) (by rw[zi rfl];go_simp) rfl ?_;exact⟨rfl,by go_grown⟩
 by_cases h1:c.mode=1
 ·have hv:aft c k={c with pos:=c.pos+c.dir*k}:=by unfold aft;rw[if_neg (by omega),if_pos h1]
  rw[hv];clear hv;go_enter func184,ntmps184;go_wp2_with fail;refine bodyPost_ret (v:=Cr.v {c with pos:=c.pos+c.dir*k} A n m) (by rw[zi rfl];go_simp) rfl ?_;exact⟨rfl,by go_grown⟩
 ·have hv:aft c k=c:=by unfold aft;rw[if_neg (by omega),if_neg h1]
  rw[hv];clear hv;go_enter func184,ntmps184;go_wp2_with fail;refine bodyPost_ret (v:=c.v A n m) (by rw[zi rfl];go_simp) rfl ?_;exact⟨rfl,by go_grown⟩
theorem Xq(w:World)(s:Sc)(sA:Option Addr)(sn sk:Nat)(cr:Cr)(A:Option Addr)(n k:Nat)(x0 x1 y0 y1:Int)(t0 t1 t2 t3:TypeId):
  ∀W,W=((((w.alloc (.cells #[O J s.fl,O J s.gap,O J s.cars,O J s.cap,O J s.opn,O J s.dw,O J s.cl,O J s.tr,.slice sA sn sk,O J s.disp,O J s.hor,O J s.bins,O J s.width] t0)).alloc (.cells (cr.cells A n k) t1)).alloc (.cells #[O U x0,O U x1] t2)).alloc (.cells #[O U y0,O U y1] t3))->
  fj w W/\W.heap.size=w.heap.size+4/\Bx W (w.heap.size) [O J s.fl,O J s.gap,O J s.cars,O J s.cap,O J s.opn,O J s.dw,O J s.cl,O J s.tr,.slice sA sn sk,O J s.disp,O J s.hor,O J s.bins,O J s.width]/\Bx W (w.heap.size+1) [O J cr.pos,O J cr.dir,O J cr.mode,O J cr.left,.bool cr.wt,.slice A n k]/\Bx W (w.heap.size+1+1) [O U x0,O U x1]/\Bx W (w.heap.size+1+1+1) [O U y0,O U y1]:=by
 rintro W rfl;have e0:=Bx.new w [O J s.fl,O J s.gap,O J s.cars,O J s.cap,O J s.opn,O J s.dw,O J s.cl,O J s.tr,.slice sA sn sk,O J s.disp,O J s.hor,O J s.bins,O J s.width] t0;have e1:=Bx.at_size (w:=w.alloc (.cells #[O J s.fl,O J s.gap,O J s.cars,O J s.cap,O J s.opn,O J s.dw,O J s.cl,O J s.tr,.slice sA sn sk,O J s.disp,O J s.hor,O J s.bins,O J s.width] t0)) (l:=[O J cr.pos,O J cr.dir,O J cr.mode,O J cr.left,.bool cr.wt,.slice A n k]) (ty:=t1) (q:=w.heap.size+1) (by simp);have e2:=Bx.at_size (w:=(w.alloc (.cells #[O J s.fl,O J s.gap,O J s.cars,O J s.cap,O J s.opn,O J s.dw,O J s.cl,O J s.tr,.slice sA sn sk,O J s.disp,O J s.hor,O J s.bins,O J s.width] t0)).alloc (.cells (cr.cells A n k) t1)) (l:=[O U x0,O U x1]) (ty:=t2) (q:=w.heap.size+1+1) (by simp);have e3:=Bx.at_size (w:=((w.alloc (.cells #[O J s.fl,O J s.gap,O J s.cars,O J s.cap,O J s.opn,O J s.dw,O J s.cl,O J s.tr,.slice sA sn sk,O J s.disp,O J s.hor,O J s.bins,O J s.width] t0)).alloc (.cells (cr.cells A n k) t1)).alloc (.cells #[O U x0,O U x1] t2)) (l:=[O U y0,O U y1]) (ty:=t3) (q:=w.heap.size+1+1+1) (by simp);exact⟨by go_grown,by simp,((e0.alloc (by simp) _).alloc (by simp) _).alloc (by simp) _,(e1.alloc (by simp) _).alloc (by simp) _,e2.alloc (by simp) _,e3⟩
structure MvS(w W:World)(s:Sc)(sA:Option Addr)(sn sk:Nat)(cr:Cr)(A:Option Addr)(n k:Nat)(x0 x1 y0 y1:Int):Prop where
 b:fj w W
 z:w.heap.size+1+1+1<W.heap.size
 s:Bx W (w.heap.size) [O J s.fl,O J s.gap,O J s.cars,O J s.cap,O J s.opn,O J s.dw,O J s.cl,O J s.tr,.slice sA sn sk,O J s.disp,O J s.hor,O J s.bins,O J s.width]
 c:Bx W (w.heap.size+1) [O J cr.pos,O J cr.dir,O J cr.mode,O J cr.left,.bool cr.wt,.slice A n k]
 x:Bx W (w.heap.size+1+1) [O U x0,O U x1]
 y:Bx W (w.heap.size+1+1+1) [O U y0,O U y1]
theorem MvS.step{w W W':World}{s:Sc}{sA:Option Addr}{sn sk:Nat}{cr:Cr}{A:Option Addr}{n k:Nat}{x0 x1 y0 y1:Int}(h:MvS w W s sA sn sk cr A n k x0 x1 y0 y1)(hb:fj W W'):MvS w W' s sA sn sk cr A n k x0 x1 y0 y1:=by
 have hz:=h.z;have hs:=hb.size;exact⟨h.b.trans (hb.mono (by omega)),by omega,h.s.below hb (by omega),h.c.below hb (by omega),h.x.below hb (by omega),h.y.below hb (by omega)⟩
theorem MvS.drewN{w W:World}{s:Sc}{sA:Option Addr}{sn sk:Nat}{cr:Cr}{A:Option Addr}{n k:Nat}{x0 x1 y0 y1:Int}(h:MvS w W s sA sn sk cr A n k x0 x1 y0 y1)(m:Nat):MvS w (W.drewN m) s sA sn sk cr A n k x0 x1 y0 y1:=h.step (zg fh m)
theorem MvS.new(w:World)(s:Sc)(sA:Option Addr)(sn sk:Nat)(cr:Cr)(A:Option Addr)(n k:Nat)(x0 x1 y0 y1:Int)(t0 t1 t2 t3:TypeId):
  MvS w ((((w.alloc (.cells #[O J s.fl,O J s.gap,O J s.cars,O J s.cap,O J s.opn,O J s.dw,O J s.cl,O J s.tr,.slice sA sn sk,O J s.disp,O J s.hor,O J s.bins,O J s.width] t0)).alloc (.cells (cr.cells A n k) t1)).alloc (.cells #[O U x0,O U x1] t2)).alloc (.cells #[O U y0,O U y1] t3)) s sA sn sk cr A n k x0 x1 y0 y1:=by
 obtain⟨h1,h2,h3,h4,h5,h6⟩:=Xq w s sA sn sk cr A n k x0 x1 y0 y1 t0 t1 t2 t3 _ rfl;exact⟨h1,by omega,h3,h4,h5,h6⟩
theorem Qo(a b c d e g f dir:Int)(h0: -1<=dir)(h1:dir<=1): -1<=qD a b c d e g f dir/\qD a b c d e g f dir<=1:=by
 unfold qD;split
 ·split
  ·decide
  ·split
   ·decide
   ·split
    ·decide
    ·split<;>decide
 ·split
  ·omega
  ·split<;>omega
structure MStep(g opn:Int)(c c':Cr):Prop where
 wt:c'.wt=c.wt
 p0:0<=c'.pos
 p1:c'.pos<=127*g
 d0: -1<=c'.dir
 d1:c'.dir<=1
 m:(c'.mode=c.mode/\c'.left=c.left/\c'.dir=c.dir)\/(c'.mode=2/\c'.left=opn)\/(c'.mode=0/\c'.dir=0/\c'.left=c.left)\/(c'.mode=1/\c'.left=c.left/\c'.dir≠0)
def cL(g opn:Int)(c:Cr)(A:Option Addr)(n k:Nat)(r:Ending):Prop:=∃ c':Cr,r=.returned (c'.v A n k)/\MStep g opn c c'
theorem Us(s:Sc)(hs:s.ok)(sA:Option Addr)(sn sk:Nat)(cr:Cr)(A:Option Addr)(n k B:Nat)(l:List Rid)(x0 x1 y0 y1:Int)(w:World)(h:Rds w B A n l)(hB:B<=w.heap.size)(hn:n<=1000000)
  (p0:0<=cr.pos)(p1:cr.pos<=127*s.gap)(d0: -1<=cr.dir)(d1:cr.dir<=1):
  Calls prog 191 #[s.v sA sn sk,cr.v A n k,zy x0 x1,zy y0 y1] w fun r w'=>cL s.gap s.opn cr A n k r/\fj w w':=by
 have g0:=hs.gap.1;have g1:=hs.gap.2;have hpl:=dv cr.pos s.gap g0 g1 p0 p1;generalize cr.pos/s.gap=f at hpl;generalize cr.pos%s.gap=r at hpl;have hr:=hpl.rng g0 g1;have HF:=ze (fun V=>jB cr.pos s.gap f r V hpl.e hpl.f0 hpl.r0 hpl.r1 (by omega));have hf0:=hpl.f0;have hf1:=hpl.f1;have he:=hpl.e;by_cases h0:r=0
 ·have hd:=decide_eq_true h0;have H0:=ze h0;clear h0;have HM0:=ze (MvS.new w s sA sn sk cr A n k x0 x1 y0 y1 25 265 325 325);have HR0:=ze (Bx.at_size (w:=((((w.alloc (.cells #[O J s.fl,O J s.gap,O J s.cars,O J s.cap,O J s.opn,O J s.dw,O J s.cl,O J s.tr,.slice sA sn sk,O J s.disp,O J s.hor,O J s.bins,O J s.width] 25)).alloc (.cells (cr.cells A n k) 265)).alloc (.cells #[O U x0,O U x1] 325)).alloc (.cells #[O U y0,O U y1] 325))) (l:=[O J 0,O J 0,O J 0,O J 0,.bool false,.slice none 0 0]) (ty:=265) (q:=w.heap.size+1+1+1+1) (by simp));have HSEE:=ze (fun V(hb:fj w V)=>kU cr A n k B l s.cap x0 x1 y0 y1 V (h.below (hb.mono hB)) (by have:=hb.size;omega) hn);have HOF:=ze (fun a b c d e g V=>xe a b c d e g f cr.dir V (by omega) (by omega) d0 d1);have HST:=ze (fun a b c d e g V(hb:fj w V)=>Ur a b c d e g f cr A n k B l V (h.below (hb.mono hB)) (by have:=hb.size;omega) hn (by omega) (by omega) d0 d1);have HPL:=ze hpl;have HRG:=ze hr;clear he hpl hr;go_enter func191,ntmps191;go_upto_region 1 with(fail);refine j9 (w:=w) (fun W=>MvS w W s sA sn sk cr A n k x0 x1 y0 y1/\Bx W (w.heap.size+1+1+1+1) [O J 0,O J 0,O J 0,O J 0,.bool false,.slice none 0 0]) ⟨HM0.o.step (fh.alloc fi _),HR0.o⟩ (by go_grown) (by simp;omega) ?_;rintro W ⟨hm,hr0⟩ hbW hzW;clear HM0 HR0 hbW hzW;have HM:=ze hm;have HR:=ze hr0;obtain⟨⟨s0,s1,s2,s3,s4,s5,s6,s7,s8,s9,s10,s11,s12⟩,-⟩:=HM.o.s.o13;obtain⟨⟨c0,c1,c2,c3,c4,c5⟩,b0,b1,b2,b3,b4,b5⟩:=HM.o.c.o6;obtain⟨⟨u0,u1⟩,-⟩:=HM.o.x.o2;obtain⟨⟨v0,v1⟩,-⟩:=HM.o.y.o2;clear hm hr0
  go_upto_if 49 with(first
   |(go_at_call 227;refine(HF.o _).mono ?_;rintro e w1 ⟨rfl,m,rfl⟩;rw[hd])
   |(go_at_call 230;refine(HST.o a b c d e g _ HM2.o.b).mono ?_;rintro r w3 ⟨⟨x,rfl,hst⟩,hb3⟩;have HM3:=ze (HM2.o.step hb3);have HR3:=ze (HR2.o.below hb3 (HR2.o.lt (by simp)));have HSP:=ze hst;clear hst hb3 t0 t1 t2 t3 t4 t5 s0 s1 s2 s3 s4 s5 s6 s7 s8 s9 s10 s11 s12 c0 c1 c2 c3 c4 c5 b0 b1 b2 b3 b4 b5)
   |(go_at_call 229;refine(HOF.o a b c d e g _).mono ?_;rintro r w2 ⟨rfl,hb2⟩;have hb12:fj w1 w2:=(fh.alloc fi _).trans (hb2.mono (by simp));have HM2:=ze (HM1.o.step hb12);have HR2:=ze (HR1.o.below hb12 (HR1.o.lt (by simp)));have HS2:=ze ((Bx.new w1 [O U a,O U b,O U c,O U d,O U e,O U g] 366).below hb2 (by simp));clear hb12 hb2 c0 c1 c2 c3 c4 c5 b0 b1 b2 b3 b4 b5;obtain⟨⟨c0,c1,c2,c3,c4,c5⟩,b0,b1,b2,b3,b4,b5⟩:=HM2.o.c.o6;obtain⟨⟨t0,t1,t2,t3,t4,t5⟩,-⟩:=HS2.o.o6;obtain⟨⟨s0,s1,s2,s3,s4,s5,s6,s7,s8,s9,s10,s11,s12⟩,-⟩:=HM2.o.s.o13)
   |(go_at_call 228;refine(HSEE.o _ (zg HM.o.b m)).mono ?_;rintro r w1 ⟨⟨a,b,c,d,e,g,rfl⟩,hb1⟩;have hb01:fj W w1:=(zg fh m).trans (hb1.mono fi);have HM1:=ze (HM.o.step hb01);have HR1:=ze (HR.o.below hb01 (HR.o.lt (by simp)));have hz4:=HR1.o.lt (by simp);have hz0:w.heap.size<w1.heap.size:=(by omega);have hz1:w.heap.size+1<w1.heap.size:=(by omega);clear hb01 hb1 s0 s1 s2 s3 s4 s5 s6 s7 s8 s9 s10 s11 s12 c0 c1 c2 c3 c4 c5 b0 b1 b2 b3 b4 b5 u0 u1 v0 v1;obtain⟨⟨c0,c1,c2,c3,c4,c5⟩,b0,b1,b2,b3,b4,b5⟩:=HM1.o.c.o6))
  have HDR:=ze (Qo a b c d e g f cr.dir d0 d1);have HNX:=ze (fun(hx:x=false)=>(HSP.o hx).next d0 d1);have HMB:=ze HM3.o;obtain⟨⟨s0,s1,s2,s3,s4,s5,s6,s7,s8,s9,s10,s11,s12⟩,-⟩:=HM3.o.s.o13;obtain⟨⟨c0,c1,c2,c3,c4,c5⟩,b0,b1,b2,b3,b4,b5⟩:=HM3.o.c.o6;obtain⟨⟨r0,r1,r2,r3,r4,r5⟩,q0,q1,q2,q3,q4,q5⟩:=HR3.o.o6;have hz3:w.heap.size<=w3.heap.size:=HM3.o.b.size;clear HSP HST HOF HSEE HF HM HM1 HM2 HM3 HR HR1 HR2 HR3 HS2;generalize qD a b c d e g f cr.dir=D at*;have BB:=ze HMB.o.b;cases x with
  |true=>
   go_wp2_with fail;go_region
   all_goals
    go_wp2_with fail;refine bodyPost_ret (v:=Cr.v {cr with mode:=2,left:=s.opn,dir:=D} A n k) (by rw[zi rfl];go_simp) rfl ?_;exact⟨⟨_,rfl,⟨rfl,p0,p1,HDR.o.1,HDR.o.2,.inr (.inl ⟨rfl,rfl⟩)⟩⟩,by go_grown;exact BB.o⟩
  |false=>
   by_cases hD:D=0
   ·have HD0:=ze hD;go_wp2_with fail;refine bodyPost_ret (v:=Cr.v {cr with mode:=0,dir:=0} A n k) (by rw[zi rfl];go_simp) rfl ?_;exact⟨⟨_,rfl,⟨rfl,p0,p1,(show(-1:Int)<=0 by decide),(show(0:Int)<=1 by decide),.inr (.inr (.inl ⟨rfl,rfl,rfl⟩))⟩⟩,by go_grown;exact BB.o⟩
   ·have HP:=ze (show 0<=cr.pos+D/\cr.pos+D<=127*s.gap from by
     have h1:=HNX.o rfl hD;have h2:=J4 h1.2;have h3:=HPL.o.e;have h4:=HRG.o;have h5:f<127->(f+1)*s.gap<=127*s.gap:=fun h=>Int.mul_le_mul_of_nonneg_right (by omega) (by omega)
     have h6:(f+1)*s.gap=f*s.gap+s.gap:=by rw[Int.add_mul,Int.one_mul]
     have h7:0<f->1*s.gap<=f*s.gap:=fun h=>Int.mul_le_mul_of_nonneg_right (by omega) (by omega)
     have h8:=HDR.o;have h9:=H0.o;rcases h1.1 with h|h
     ·rcases h2 with h2|h2
      ·have:=h5 h2.2;omega
      ·omega
     ·rcases h2 with h2|h2
      ·omega
      ·have:=h7 h2.2;omega)
    have hw:IntKind.i64.wrap (cr.pos+D)=cr.pos+D:=by
     have h4:=HRG.o;have h8:=HDR.o;rw[IntKind.wrap_i64];omega
    go_wp2_with fail;refine bodyPost_ret (v:=Cr.v {cr with mode:=1,dir:=D,pos:=cr.pos+D} A n k) (by rw[zi rfl];go_simp) rfl ?_;exact⟨⟨_,rfl,⟨rfl,HP.o.1,HP.o.2,HDR.o.1,HDR.o.2,.inr (.inr (.inr ⟨rfl,rfl,hD⟩))⟩⟩,by go_grown;exact BB.o⟩
 ·have hd:=decide_eq_false h0;have hw:IntKind.i64.wrap (cr.pos+cr.dir)=cr.pos+cr.dir:=by rw[IntKind.wrap_i64];omega
  have HP:=ze (show 0<=cr.pos+cr.dir/\cr.pos+cr.dir<=127*s.gap from by
   have hr0:=hpl.r0;have h3:=hr.2.2.1 h0;have h4:=hr.1;have e1:(f+1)*s.gap=f*s.gap+s.gap:=by rw[Int.add_mul,Int.one_mul]
   have h5:(f+1)*s.gap<=127*s.gap:=Int.mul_le_mul_of_nonneg_right (by have h6:f≠127:=fun e=>h0 (hpl.l e);omega) (by omega);have h6:=hpl.r1;omega)
  clear he hpl;go_enter func191,ntmps191;go_wp2_with(first|(go_at_call 227;refine(HF.o _).mono ?_;rintro e w1 ⟨rfl,m,rfl⟩;rw[hd]));refine bodyPost_ret (v:=Cr.v {cr with pos:=cr.pos+cr.dir} A n k) (by rw[zi rfl];go_simp) rfl ?_;exact⟨⟨_,rfl,⟨rfl,HP.o.1,HP.o.2,d0,d1,.inl ⟨rfl,rfl,rfl⟩⟩⟩,by go_grown;exact zg (by go_grown) _⟩
end
end Go.Proofs.YtdeogmbfgkepeaaGreatDoor
