/- Contracts for WholeDelivers. -/
import Derived.Test.YtdeogmbfgkepeaaGreatDoorR28
set_option linter.unusedVariables false
set_option linter.unusedSimpArgs false
set_option maxRecDepth 100000
set_option maxHeartbeats 64000000
namespace Go.Proofs.YtdeogmbfgkepeaaGreatDoor
open Go.Proofs.Tryz
open Go.Value renaming int->O
open Go.IntKind renaming i64->J,u64->U
section
open Go.RowKit HB
theorem Yp{k k':IntKind}{a b c d:Int}(h:a=b)(h':c=d):Ending.returned (.tuple #[.int k a,.int k' c])=Ending.returned (.tuple #[.int k b,.int k' d]):=by rw[h,h']
structure Plc(p g f r:Int):Prop where
 e:p=f*g+r
 f0:0<=f
 f1:f<=127
 r0:0<=r
 r1:r<g
 l:f=127->r=0
theorem dv(p g:Int)(g0:1<=g)(g1:g<=16)(p0:0<=p)(p1:p<=127*g):Plc p g (p/g) (p%g):=by
 have h:=Int.emod_add_mul_ediv p g;have h3:=iB p (show g≠0 by omega);have h4:=du p (show 0<g by omega);have h1:0<=p/g:=Wi p0 (by omega);have h2:p/g<=127:=by
  have:p/g<128:=(Int.ediv_lt_iff_lt_mul (by omega)).2 (by omega);omega
 refine⟨?_,h1,h2,h3,h4,fun h0=>?_⟩
 ·rw[cX];omega
 ·rw[h0]at h;omega
theorem Plc.rng{p g f r:Int}(h:Plc p g f r)(g0:1<=g)(g1:g<=16):0<=f*g/\f*g<=2032/\(r≠0->(f+1)*g<=2032/\0<=(f+1)*g)/\0<=p/\p<=2032/\p<=127*g:=by
 have h1:f*g<=127*g:=xB h.f1 (by omega);have h2:0<=f*g:=JE h.f0 (by omega);have h3:=h.r0;have h4:=h.r1;have h5:=h.e;have key:r≠0->(f+1)*g<=127*g:=fun hr=>xB (by
  have:=h.f1;have h6:f≠127:=fun e=>hr (h.l e)
  omega) (by omega)
 have e1:(f+1)*g=f*g+g:=by rw[Vo,Hy]
 have h7:p<=127*g:=by
  by_cases hr:r=0
  ·omega
  ·have:=key hr;omega
 refine⟨h2,by omega,fun hr=>?_,by omega,by omega,h7⟩;have:=key hr;omega
def dx(g f r dir:Int):Int:=if r=0 then 0 else if 0<dir then g-r else r
def dy(f r dir:Int):Int:=if r=0 then f else if 0<dir then f+1 else f
theorem Xp(p g f r dir:Int)(w:l6)(h:Plc p g f r)(g0:1<=g)(g1:g<=16):Calls prog 283 #[O J p,O J g,O J dir] w (fk (.tuple #[O J (dx g f r dir),O J (dy f r dir)]) w):=by
 have hr:=h.rng g0 g1;have HF:=ze (fun V=>jB p g f r V h.e h.f0 h.r0 h.r1 (by omega));have h2:=h.f0;have h3:=h.f1;have h4:=h.r0;have h5:=h.r1;have he:=h.e;have e1:(f+1)*g=f*g+g:=by rw[Vo,Hy]
 unfold dx dy;by_cases h0:r=0
 ·rw[if_pos h0,if_pos h0];have hd:=decide_eq_true h0;clear he
  go_in
  go_wp2_with(go_at_call 227;refine(HF.o _).mono ?_;rintro e w1 ⟨rfl,m,rfl⟩;rw[hd]);go_ret2;exact⟨rfl,zg fh _⟩
 ·rw[if_neg h0,if_neg h0];have hd:=decide_eq_false h0;by_cases h1:0<dir
  ·rw[if_pos h1,if_pos h1];have hA:=ze (fun V=>kP (f+1) g ((f+1)*g) V rfl (by omega) (by omega));have ew:(f+1)*g-p=g-r:=by omega
   clear he
   go_in
   go_wp2_with(first|(go_at_call 227;refine(HF.o _).mono ?_;rintro e w1 ⟨rfl,m,rfl⟩;rw[hd])|(go_at_call 176;refine(hA.o _).mono ?_;rintro e w2 ⟨rfl,rfl⟩));go_ret2;exact⟨Yp (by omega) rfl,zg fh _⟩
  ·rw[if_neg h1,if_neg h1];have hA:=ze (fun V=>kP f g (f*g) V rfl (by omega) (by omega));have ew:p-f*g=r:=by omega
   clear he
   go_in
   go_wp2_with(first|(go_at_call 227;refine(HF.o _).mono ?_;rintro e w1 ⟨rfl,m,rfl⟩;rw[hd])|(go_at_call 176;refine(hA.o _).mono ?_;rintro e w2 ⟨rfl,rfl⟩));go_ret2;exact⟨Yp (by omega) rfl,zg fh _⟩
def aft(c:Cr)(k:Int):Cr:=if c.mode=2\/c.mode=3\/c.mode=4 then{c with left:=c.left-k}else if c.mode=1 then{c with pos:=c.pos+c.dir*k}else c
theorem KM(c:Cr)(A:iX)(n m:Nat)(k:Int)(w:l6)(hl: -1000000000<=c.left-k)(hl1:c.left-k<=1000000000)(hd: -1000000000<=c.dir*k)(hd1:c.dir*k<=1000000000)(hp: -1000000000<=c.pos)(hp1:c.pos<=1000000000):
  Calls prog 184 #[c.v A n m,O J k] w (fk ((aft c k).v A n m) w):=by
 have ew0:IntKind.i64.wrap (c.left-k)=c.left-k:=by rw[JH];omega
 have ew1:IntKind.i64.wrap (c.dir*k)=c.dir*k:=by rw[JH];omega
 have ew2:IntKind.i64.wrap (c.pos+c.dir*k)=c.pos+c.dir*k:=by rw[JH];omega
 by_cases h2:c.mode=2
 ·have hv:aft c k={c with left:=c.left-k}:=by unfold aft;rw[if_pos (.inl h2)]
  rw[hv];clear hv
  go_in
  go_wp2_with fail;refine bodyPost_ret (v:=Cr.v {c with left:=c.left-k} A n m) (by rw[zi rfl];go_simp) rfl ?_;exact⟨rfl,by go_grown⟩
 by_cases h3:c.mode=3
 ·have hv:aft c k={c with left:=c.left-k}:=by unfold aft;rw[if_pos (.inr (.inl h3))]
  rw[hv];clear hv
  go_in
  go_wp2_with fail;refine bodyPost_ret (v:=Cr.v {c with left:=c.left-k} A n m) (by rw[zi rfl];go_simp) rfl ?_;exact⟨rfl,by go_grown⟩
 by_cases h4:c.mode=4
 ·have hv:aft c k={c with left:=c.left-k}:=by unfold aft;rw[if_pos (.inr (.inr h4))]
  rw[hv];clear hv
  go_in
  go_wp2_with fail;refine bodyPost_ret (v:=Cr.v {c with left:=c.left-k} A n m) (by rw[zi rfl];go_simp) rfl ?_;exact⟨rfl,by go_grown⟩
 by_cases h1:c.mode=1
 ·have hv:aft c k={c with pos:=c.pos+c.dir*k}:=by unfold aft;rw[if_neg (by omega),if_pos h1]
  rw[hv];clear hv
  go_in
  go_wp2_with fail;refine bodyPost_ret (v:=Cr.v {c with pos:=c.pos+c.dir*k} A n m) (by rw[zi rfl];go_simp) rfl ?_;exact⟨rfl,by go_grown⟩
 ·have hv:aft c k=c:=by unfold aft;rw[if_neg (by omega),if_neg h1]
  rw[hv];clear hv
  go_in
  go_wp2_with fail;refine bodyPost_ret (v:=c.v A n m) (by rw[zi rfl];go_simp) rfl ?_;exact⟨rfl,by go_grown⟩
theorem Xq(w:l6)(s:Sc)(sA:iX)(sn sk:Nat)(cr:Cr)(A:iX)(n k:Nat)(x0 x1 y0 y1:Int)(t0 t1 t2 t3:TypeId):
  ∀W,W=((((w.alloc (.cells #[O J s.fl,O J s.gap,O J s.cars,O J s.cap,O J s.opn,O J s.dw,O J s.cl,O J s.tr,.slice sA sn sk,O J s.disp,O J s.hor,O J s.bins,O J s.width] t0)).alloc (.cells (cr.cells A n k) t1)).alloc (.cells #[O U x0,O U x1] t2)).alloc (.cells #[O U y0,O U y1] t3))->
  fj w W/\W.heap.size=w.heap.size+4/\Bx W (w.heap.size) [O J s.fl,O J s.gap,O J s.cars,O J s.cap,O J s.opn,O J s.dw,O J s.cl,O J s.tr,.slice sA sn sk,O J s.disp,O J s.hor,O J s.bins,O J s.width]/\Bx W (w.heap.size+1) [O J cr.pos,O J cr.dir,O J cr.mode,O J cr.left,.bool cr.wt,.slice A n k]/\Bx W (w.heap.size+1+1) [O U x0,O U x1]/\Bx W (w.heap.size+1+1+1) [O U y0,O U y1]:=by
 rintro W rfl;have e0:=Bx.new w [O J s.fl,O J s.gap,O J s.cars,O J s.cap,O J s.opn,O J s.dw,O J s.cl,O J s.tr,.slice sA sn sk,O J s.disp,O J s.hor,O J s.bins,O J s.width] t0;have e1:=Bx.at_size (w:=w.alloc (.cells #[O J s.fl,O J s.gap,O J s.cars,O J s.cap,O J s.opn,O J s.dw,O J s.cl,O J s.tr,.slice sA sn sk,O J s.disp,O J s.hor,O J s.bins,O J s.width] t0)) (l:=[O J cr.pos,O J cr.dir,O J cr.mode,O J cr.left,.bool cr.wt,.slice A n k]) (ty:=t1) (q:=w.heap.size+1) (by simp);have e2:=Bx.at_size (w:=(w.alloc (.cells #[O J s.fl,O J s.gap,O J s.cars,O J s.cap,O J s.opn,O J s.dw,O J s.cl,O J s.tr,.slice sA sn sk,O J s.disp,O J s.hor,O J s.bins,O J s.width] t0)).alloc (.cells (cr.cells A n k) t1)) (l:=[O U x0,O U x1]) (ty:=t2) (q:=w.heap.size+1+1) (by simp);have e3:=Bx.at_size (w:=((w.alloc (.cells #[O J s.fl,O J s.gap,O J s.cars,O J s.cap,O J s.opn,O J s.dw,O J s.cl,O J s.tr,.slice sA sn sk,O J s.disp,O J s.hor,O J s.bins,O J s.width] t0)).alloc (.cells (cr.cells A n k) t1)).alloc (.cells #[O U x0,O U x1] t2)) (l:=[O U y0,O U y1]) (ty:=t3) (q:=w.heap.size+1+1+1) (by simp);exact⟨by go_grown,by simp,((e0.alloc (by simp) _).alloc (by simp) _).alloc (by simp) _,(e1.alloc (by simp) _).alloc (by simp) _,e2.alloc (by simp) _,e3⟩
structure MvS(w W:l6)(s:Sc)(sA:iX)(sn sk:Nat)(cr:Cr)(A:iX)(n k:Nat)(x0 x1 y0 y1:Int):Prop where
 b:fj w W
 z:w.heap.size+1+1+1<W.heap.size
 s:Bx W (w.heap.size) [O J s.fl,O J s.gap,O J s.cars,O J s.cap,O J s.opn,O J s.dw,O J s.cl,O J s.tr,.slice sA sn sk,O J s.disp,O J s.hor,O J s.bins,O J s.width]
 c:Bx W (w.heap.size+1) [O J cr.pos,O J cr.dir,O J cr.mode,O J cr.left,.bool cr.wt,.slice A n k]
 x:Bx W (w.heap.size+1+1) [O U x0,O U x1]
 y:Bx W (w.heap.size+1+1+1) [O U y0,O U y1]
theorem MvS.step{w W W':l6}{s:Sc}{sA:iX}{sn sk:Nat}{cr:Cr}{A:iX}{n k:Nat}{x0 x1 y0 y1:Int}(h:MvS w W s sA sn sk cr A n k x0 x1 y0 y1)(hb:fj W W'):MvS w W' s sA sn sk cr A n k x0 x1 y0 y1:=by
 have hz:=h.z;have hs:=hb.size;exact⟨h.b.trans (hb.mono (by omega)),by omega,h.s.below hb (by omega),h.c.below hb (by omega),h.x.below hb (by omega),h.y.below hb (by omega)⟩
theorem MvS.drewN{w W:l6}{s:Sc}{sA:iX}{sn sk:Nat}{cr:Cr}{A:iX}{n k:Nat}{x0 x1 y0 y1:Int}(h:MvS w W s sA sn sk cr A n k x0 x1 y0 y1)(m:Nat):MvS w (W.drewN m) s sA sn sk cr A n k x0 x1 y0 y1:=h.step (zg fh m)
theorem MvS.new(w:l6)(s:Sc)(sA:iX)(sn sk:Nat)(cr:Cr)(A:iX)(n k:Nat)(x0 x1 y0 y1:Int)(t0 t1 t2 t3:TypeId):
  MvS w ((((w.alloc (.cells #[O J s.fl,O J s.gap,O J s.cars,O J s.cap,O J s.opn,O J s.dw,O J s.cl,O J s.tr,.slice sA sn sk,O J s.disp,O J s.hor,O J s.bins,O J s.width] t0)).alloc (.cells (cr.cells A n k) t1)).alloc (.cells #[O U x0,O U x1] t2)).alloc (.cells #[O U y0,O U y1] t3)) s sA sn sk cr A n k x0 x1 y0 y1:=by
 obtain⟨h1,h2,h3,h4,h5,h6⟩:=Xq w s sA sn sk cr A n k x0 x1 y0 y1 t0 t1 t2 t3 _ rfl;exact⟨h1,by omega,h3,h4,h5,h6⟩
theorem Qo(a b c d e g f dir:Int)(h0: -1<=dir)(h1:dir<=1): -1<=qD a b c d e g f dir/\qD a b c d e g f dir<=1:=by
 unfold qD;split
 ·split
  ·decide
  ·split
   ·decide
   ·split
    ·decide
    ·split<;>decide
 ·split
  ·omega
  ·split<;>omega
structure MStep(g opn:Int)(c c':Cr):Prop where
 wt:c'.wt=c.wt
 p0:0<=c'.pos
 p1:c'.pos<=127*g
 d0: -1<=c'.dir
 d1:c'.dir<=1
 m:(c'.mode=c.mode/\c'.left=c.left/\c'.dir=c.dir)\/(c'.mode=2/\c'.left=opn)\/(c'.mode=0/\c'.dir=0/\c'.left=c.left)\/(c'.mode=1/\c'.left=c.left/\c'.dir≠0)
def cL(s:Sc)(v:Vw)(c:Cr)(A:iX)(n k:Nat)(r:Ending):Prop:=∃ c':Cr,r=.returned (c'.v A n k)/\MStep s.gap s.opn c c'/\MoveX s v c c'
theorem Us(s:Sc)(hs:s.ok)(sA:iX)(sn sk:Nat)(cr:Cr)(A:iX)(n k B:Nat)(l:List Rid)(x0 x1 y0 y1:Int)(w:l6)(h:Rds w B A n l)(hB:B<=w.heap.size)(hn:n<=1000000)
  (p0:0<=cr.pos)(p1:cr.pos<=127*s.gap)(d0: -1<=cr.dir)(d1:cr.dir<=1){P:Int->Int->Prop}(hx:SetOf x0 x1 (P 1))(hy:SetOf y0 y1 (P (-1))):
  Calls prog 191 #[s.v sA sn sk,cr.v A n k,zy x0 x1,zy y0 y1] w fun r w'=>cL s (yy s.cap l P) cr A n k r/\fj w w':=by
 have g0:=hs.gap.1;have g1:=hs.gap.2;have ha:=dv cr.pos s.gap g0 g1 p0 p1;generalize hV:cr.pos/s.gap=f at ha;generalize hW:cr.pos%s.gap=r at ha;have hu:=ze hV;have hq:=ze hW;clear hV hW;have hr:=ha.rng g0 g1;have HF:=ze (fun V=>jB cr.pos s.gap f r V ha.e ha.f0 ha.r0 ha.r1 (by omega));have hT:=ha.f0;have hU:=ha.f1;have he:=ha.e;by_cases h0:r=0
 ·have hd:=decide_eq_true h0;have H0:=ze h0;clear h0;have hJ:=ze (MvS.new w s sA sn sk cr A n k x0 x1 y0 y1 25 265 325 325);have hN:=ze (Bx.at_size (w:=((((w.alloc (.cells #[O J s.fl,O J s.gap,O J s.cars,O J s.cap,O J s.opn,O J s.dw,O J s.cl,O J s.tr,.slice sA sn sk,O J s.disp,O J s.hor,O J s.bins,O J s.width] 25)).alloc (.cells (cr.cells A n k) 265)).alloc (.cells #[O U x0,O U x1] 325)).alloc (.cells #[O U y0,O U y1] 325))) (l:=[O J 0,O J 0,O J 0,O J 0,.bool false,.slice none 0 0]) (ty:=265) (q:=w.heap.size+1+1+1+1) (by simp));have hl:=ze (fun V(hb:fj w V)=>kU cr A n k B l s.cap x0 x1 y0 y1 V (h.below (hb.mono hB)) (by have:=hb.size;omega) hn hx hy);have hM:=ze (fun a b c d e g V=>xe a b c d e g f cr.dir V (by omega) (by omega) d0 d1);have hR:=ze (fun a b c d e g V(hb:fj w V)=>Ur a b c d e g f cr A n k B l V (h.below (hb.mono hB)) (by have:=hb.size;omega) hn (by omega) (by omega) d0 d1);have hZ:=ze ha;have hP:=ze hr;clear he ha hr hx hy
  go_in
  go_upto_region 1 with(fail);refine j9 (w:=w) (fun W=>MvS w W s sA sn sk cr A n k x0 x1 y0 y1/\Bx W (w.heap.size+1+1+1+1) [O J 0,O J 0,O J 0,O J 0,.bool false,.slice none 0 0]) ⟨hJ.o.step (fh.alloc fi _),hN.o⟩ (by go_grown) (by simp;omega) ?_;rintro W ⟨hm,hG⟩ H1 H2;clear hJ hN H1 H2;have HM:=ze hm;have HR:=ze hG;obtain⟨⟨s0,s1,s2,s3,s4,s5,s6,s7,s8,s9,s10,s11,s12⟩,-⟩:=HM.o.s.o13;obtain⟨⟨c0,c1,c2,c3,c4,c5⟩,b0,b1,b2,b3,b4,b5⟩:=HM.o.c.o6;obtain⟨⟨u0,u1⟩,-⟩:=HM.o.x.o2;obtain⟨⟨v0,v1⟩,-⟩:=HM.o.y.o2;clear hm hG
  go_upto_if 49 with(first
   |(go_at_call 227;refine(HF.o _).mono ?_;rintro e w1 ⟨rfl,m,rfl⟩;rw[hd])
   |(go_at_call 230;refine(hR.o a b c d e g _ hj.o.b).mono ?_;rintro r w3 ⟨rfl,hF⟩;obtain⟨x,hI⟩:∃ x,x=yo a b c d e g f cr.dir l:=⟨_,rfl⟩;rw[<-hI];have hk:=ze (hj.o.step hF);have hO:=ze (hz.o.below hF (hz.o.lt (by simp)));have hC:=ze hI;clear hI hF t0 t1 t2 t3 t4 t5 s0 s1 s2 s3 s4 s5 s6 s7 s8 s9 s10 s11 s12 c0 c1 c2 c3 c4 c5 b0 b1 b2 b3 b4 b5)
   |(go_at_call 229;refine(hM.o a b c d e g _).mono ?_;rintro r w2 ⟨rfl,hE⟩;have hf:fj w1 w2:=(fh.alloc fi _).trans (hE.mono (by simp));have hj:=ze (hv.o.step hf);have hz:=ze (hp.o.below hf (hp.o.lt (by simp)));have hQ:=ze ((Bx.new w1 [O U a,O U b,O U c,O U d,O U e,O U g] 366).below hE (by simp));clear hf hE c0 c1 c2 c3 c4 c5 b0 b1 b2 b3 b4 b5;obtain⟨⟨c0,c1,c2,c3,c4,c5⟩,b0,b1,b2,b3,b4,b5⟩:=hj.o.c.o6;obtain⟨⟨t0,t1,t2,t3,t4,t5⟩,-⟩:=hQ.o.o6;obtain⟨⟨s0,s1,s2,s3,s4,s5,s6,s7,s8,s9,s10,s11,s12⟩,-⟩:=hj.o.s.o13)
   |(go_at_call 228;refine(hl.o _ (zg HM.o.b m)).mono ?_;rintro r w1 ⟨⟨a,b,c,d,e,g,rfl,hX⟩,hS⟩;have hA:=ze hX;clear hX;have hc:fj W w1:=(zg fh m).trans (hS.mono fi);have hv:=ze (HM.o.step hc);have hp:=ze (HR.o.below hc (HR.o.lt (by simp)));have H7:=hp.o.lt (by simp);have H4:w.heap.size<w1.heap.size:=(by omega);have H5:w.heap.size+1<w1.heap.size:=(by omega);clear hc hS s0 s1 s2 s3 s4 s5 s6 s7 s8 s9 s10 s11 s12 c0 c1 c2 c3 c4 c5 b0 b1 b2 b3 b4 b5 u0 u1 v0 v1;obtain⟨⟨c0,c1,c2,c3,c4,c5⟩,b0,b1,b2,b3,b4,b5⟩:=hv.o.c.o6))
  have hg:=ze (Qo a b c d e g f cr.dir d0 d1);have ho:=ze (fun(hx:x=false)=>(fO (hC.o.symm.trans hx)).next d0 d1);have ht:=ze (show x=true↔(yy s.cap l P).stop f cr.dir from by rw[hC.o];exact hA.o.stopI hT hU d0 d1);have hi:=ze (hA.o.ofI hT hU d0 d1);have hY:=ze hk.o;obtain⟨⟨s0,s1,s2,s3,s4,s5,s6,s7,s8,s9,s10,s11,s12⟩,-⟩:=hk.o.s.o13;obtain⟨⟨c0,c1,c2,c3,c4,c5⟩,b0,b1,b2,b3,b4,b5⟩:=hk.o.c.o6;obtain⟨⟨r0,r1,r2,r3,r4,r5⟩,q0,q1,q2,q3,q4,q5⟩:=hO.o.o6;have H6:w.heap.size<=w3.heap.size:=hk.o.b.size;clear hC hA hR hM hl HF HM hv hj hk HR hp hz hO hQ;generalize qD a b c d e g f cr.dir=D at*;have BB:=ze hY.o.b;cases x with
  |true=>
   have HX:=ze (MoveX.stop_ hu.o (hq.o.trans H0.o) hi.o (ht.o.1 rfl));clear ht hi ho;go_wp2_with fail;go_region
   all_goals
    go_wp2_with fail;refine bodyPost_ret (v:=Cr.v {cr with mode:=2,left:=s.opn,dir:=D} A n k) (by rw[zi rfl];go_simp) rfl ?_;exact⟨⟨_,rfl,⟨rfl,p0,p1,hg.o.1,hg.o.2,.inr (.inl ⟨rfl,rfl⟩)⟩,HX.o⟩,by go_grown;exact BB.o⟩
  |false=>
   have hL:=ze (show¬(yy s.cap l P).stop f cr.dir from fun h=>Bool.noConfusion (ht.o.2 h));clear ht;by_cases hD:D=0
   ·have H3:=ze hD;have HX:=ze (MoveX.rest_ hu.o (hq.o.trans H0.o) hi.o hL.o hD);clear ho hi;go_wp2_with fail;refine bodyPost_ret (v:=Cr.v {cr with mode:=0,dir:=0} A n k) (by rw[zi rfl];go_simp) rfl ?_;exact⟨⟨_,rfl,⟨rfl,p0,p1,(show(-1:Int)<=0 by decide),(show(0:Int)<=1 by decide),.inr (.inr (.inl ⟨rfl,rfl,rfl⟩))⟩,HX.o⟩,by go_grown;exact BB.o⟩
   ·have HP:=ze (show 0<=cr.pos+D/\cr.pos+D<=127*s.gap from by
     have h1:=ho.o rfl hD;have h2:=J4 h1.2;have h3:=hZ.o.e;have h4:=hP.o;have h5:f<127->(f+1)*s.gap<=127*s.gap:=fun h=>xB (by omega) (by omega)
     have h6:(f+1)*s.gap=f*s.gap+s.gap:=by rw[Vo,Hy]
     have h7:0<f->1*s.gap<=f*s.gap:=fun h=>xB (by omega) (by omega)
     have h8:=hg.o;have h9:=H0.o;rcases h1.1 with h|h
     ·rcases h2 with h2|h2
      ·have:=h5 h2.2;omega
      ·omega
     ·rcases h2 with h2|h2
      ·omega
      ·have:=h7 h2.2;omega)
    have hw:IntKind.i64.wrap (cr.pos+D)=cr.pos+D:=by
     have h4:=hP.o;have h8:=hg.o;rw[JH];omega
    have HX:=ze (MoveX.on_ hu.o (hq.o.trans H0.o) hi.o hL.o hD);clear ho hi;go_wp2_with fail;refine bodyPost_ret (v:=Cr.v {cr with mode:=1,dir:=D,pos:=cr.pos+D} A n k) (by rw[zi rfl];go_simp) rfl ?_;exact⟨⟨_,rfl,⟨rfl,HP.o.1,HP.o.2,hg.o.1,hg.o.2,.inr (.inr (.inr ⟨rfl,rfl,hD⟩))⟩,HX.o⟩,by go_grown;exact BB.o⟩
 ·have hd:=decide_eq_false h0;have hw:IntKind.i64.wrap (cr.pos+cr.dir)=cr.pos+cr.dir:=by rw[JH];omega
  have HP:=ze (show 0<=cr.pos+cr.dir/\cr.pos+cr.dir<=127*s.gap from by
   have hG:=ha.r0;have h3:=hr.2.2.1 h0;have h4:=hr.1;have e1:(f+1)*s.gap=f*s.gap+s.gap:=by rw[Vo,Hy]
   have h5:(f+1)*s.gap<=127*s.gap:=xB (by have h6:f≠127:=fun e=>h0 (ha.l e);omega) (by omega);have h6:=ha.r1;omega)
  have HX:=ze (MoveX.go_ (s:=s) (v:=yy s.cap l P) (c:=cr) (by rw[hq.o];exact h0));clear he ha hx hy
  go_in
  go_wp2_with(first|(go_at_call 227;refine(HF.o _).mono ?_;rintro e w1 ⟨rfl,m,rfl⟩;rw[hd]));refine bodyPost_ret (v:=Cr.v {cr with pos:=cr.pos+cr.dir} A n k) (by rw[zi rfl];go_simp) rfl ?_;exact⟨⟨_,rfl,⟨rfl,HP.o.1,HP.o.2,d0,d1,.inl ⟨rfl,rfl,rfl⟩⟩,HX.o⟩,by go_grown;exact zg (by go_grown) _⟩
def cM(s:Sc)(v:Vw)(c:Cr)(r:Ending):Prop:=∃ N F:Int,r=.returned (.tuple #[O J (N+1),O J F])/\(0<=N/\N<=3000/\0<=c.pos+c.dir*N/\c.pos+c.dir*N<=127*s.gap)/\(c.dir≠0->∃ F,c.pos+c.dir*N=F*s.gap/\(v.stop F c.dir\/v.of F c.dir≠c.dir)/\NoX s v c N)
structure AhP(p g dir N F:Int):Prop where
 n0:0<=N
 n1:N<=3000
 f0:0<=F
 f1:F<=127
 e:dir≠0->p+dir*N=F*g
 p0:0<=p+dir*N
 p1:p+dir*N<=127*g
theorem AhP.first{p g f r dir:Int}(h:Plc p g f r)(g0:1<=g)(g1:g<=16)(d0: -1<=dir)(d1:dir<=1):AhP p g dir (dx g f r dir) (dy f r dir):=by
 have hr:=h.rng g0 g1;have e1:(f+1)*g=f*g+g:=by rw[Vo,Hy]
 have:=h.e;have:=h.f0;have:=h.f1;have:=h.r0;have:=h.r1;have hl:=h.l;unfold dx dy;by_cases h0:r=0
 ·rw[if_pos h0,if_pos h0];refine⟨by omega,by omega,by omega,by omega,fun _=>?_,?_,?_⟩<;>rw[Int.mul_zero]<;>omega
 ·rw[if_neg h0,if_neg h0];have hf:f≠127:=fun e=>h0 (hl e)
  have h5:(f+1)*g<=127*g:=xB (by omega) (by omega);have hd:dir=1\/dir=0\/dir=-1:=by omega
  rcases hd with rfl|rfl|rfl
  ·rw[if_pos (by decide),if_pos (by decide)];exact⟨by omega,by omega,by omega,by omega,fun _=>by omega,by omega,by omega⟩
  ·rw[if_neg (by decide),if_neg (by decide)];exact⟨by omega,by omega,by omega,by omega,fun h=>absurd rfl h,by omega,by omega⟩
  ·rw[if_neg (by decide),if_neg (by decide)];exact⟨by omega,by omega,by omega,by omega,fun _=>by omega,by omega,by omega⟩
theorem AhP.next{p g dir N F:Int}(h:AhP p g dir N F)(g0:1<=g)(g1:g<=16)(p0:0<=p)(p1:p<=127*g)(hd:(dir=1/\F<127)\/(dir=-1/\0<F)):AhP p g dir (N+g) (F+dir):=by
 have h1:=h.n0;have h3:=h.f0;have h4:=h.f1;have h5:=h.p0;have h6:=h.p1;rcases hd with⟨rfl,h7⟩|⟨rfl,h7⟩
 ·have he:=h.e (by decide);have e1:(F+1)*g=F*g+g:=by rw[Vo,Hy]
  have h8:(F+1)*g<=127*g:=xB (by omega) (by omega);exact⟨by omega,by omega,by omega,by omega,fun _=>by omega,by omega,by omega⟩
 ·have he:=h.e (by decide);have e1:(F+-1)*g=F*g-g:=by rw[Vo];omega
  have h8:1*g<=F*g:=xB (by omega) (by omega);exact⟨by omega,by omega,by omega,by omega,fun _=>by omega,by omega,by omega⟩
theorem fL{F F' j g:Int}(h0:0<j)(h1:j<g)(e:F*g+j=F'*g):False:=by
 have h:=congrArg (·% g) e;simp only[Int.mul_emod_left,Int.add_comm (F*g) j,Int.add_mul_emod_self_right]at h;rw[Int.emod_eq_of_lt (by omega) h1]at h;omega
theorem NoX.first{s:Sc}{v:Vw}{c:Cr}{f r:Int}(h:Plc c.pos s.gap f r)(d0: -1<=c.dir)(d1:c.dir<=1)(hd:c.dir≠0):NoX s v c (dx s.gap f r c.dir):=by
 intro k F' k0 k1 e;exfalso;have e1:(F'+1)*s.gap=F'*s.gap+s.gap:=by rw[Vo,Hy]
 have:=h.e;have:=h.r0;have:=h.r1;unfold dx at k1;split at k1
 ·omega
 ·rcases(show c.dir=1\/c.dir=-1 by omega)with hd|hd<;>rw[hd]at k1 e
  ·rw[if_pos (by decide)]at k1;exact fL (F:=f) (F':=F') (j:=r+k) (g:=s.gap) (by omega) (by omega) (by omega)
  ·rw[if_neg (by decide)]at k1;exact fL (F:=f) (F':=F') (j:=r-k) (g:=s.gap) (by omega) (by omega) (by omega)
theorem NoX.next{s:Sc}{v:Vw}{c:Cr}{N F:Int}(h:NoX s v c N)(g0:1<=s.gap)(d0: -1<=c.dir)(d1:c.dir<=1)(hd:c.dir≠0)(he:c.pos+c.dir*N=F*s.gap)(hF:¬ (v.stop F c.dir\/v.of F c.dir≠c.dir)):NoX s v c (N+s.gap):=by
 intro k F' k0 k1 e;rcases Int.lt_trichotomy k N with hk|hk|hk
 ·exact h k F' k0 hk e
 ·subst hk;have h2:F*s.gap=F'*s.gap:=he.symm.trans e;rw[<-Int.eq_of_mul_eq_mul_right (by omega) h2];exact hF
 ·exfalso;have e1:(F'+1)*s.gap=F'*s.gap+s.gap:=by rw[Vo,Hy]
  rcases(show c.dir=1\/c.dir=-1 by omega)with hd|hd<;>rw[hd]at he e
  ·exact fL (F:=F) (F':=F') (j:=k-N) (g:=s.gap) (by omega) (by omega) (by omega)
  ·exact fL (F:=F') (F':=F) (j:=k-N) (g:=s.gap) (by omega) (by omega) (by omega)
theorem Uu{a b c d e f fl dir:Int}{l:List Rid}(hs:yo a b c d e f fl dir l=false)(ho:qD a b c d e f fl dir=dir)(h0:dir≠0)(d0: -1<=dir)(d1:dir<=1):(dir=1/\fl<127)\/(dir=-1/\0<fl):=by
 have h:=(fO hs).next d0 d1 (by rw[ho];exact h0);rw[ho]at h;have h2:=J4 h.2;rcases h.1 with h3|h3<;>rcases h2 with h4|h4<;>omega
theorem Xr(s:Sc)(hs:s.ok)(sA:iX)(sn sk:Nat)(cr:Cr)(A:iX)(n k B:Nat)(l:List Rid)(x0 x1 y0 y1:Int)(w:l6)(h:Rds w B A n l)(hB:B<=w.heap.size)(hn:n<=1000000)
  (p0:0<=cr.pos)(p1:cr.pos<=127*s.gap)(d0: -1<=cr.dir)(d1:cr.dir<=1){P:Int->Int->Prop}(hx:SetOf x0 x1 (P 1))(hy:SetOf y0 y1 (P (-1))):
  Calls prog 269 #[s.v sA sn sk,cr.v A n k,zy x0 x1,zy y0 y1] w fun r w'=>cM s (yy s.cap l P) cr r/\fj w w':=by
 have g0:=hs.gap.1;have g1:=hs.gap.2;have hf:=dv cr.pos s.gap g0 g1 p0 p1;generalize cr.pos/s.gap=f at hf;generalize cr.pos%s.gap=r at hf;have hq:=ze (AhP.first hf g0 g1 d0 d1);have hC:=ze (NoX.first (s:=s) (v:=yy s.cap l P) hf d0 d1);have hd:=ze (fun V=>Xp cr.pos s.gap f r cr.dir V hf g0 g1);generalize dx s.gap f r cr.dir=N0 at hq hd hC;generalize dy f r cr.dir=F0 at hq hd;have hA:=ze (MvS.new w s sA sn sk cr A n k x0 x1 y0 y1 25 265 325 325);have hg:=ze (fun V(hb:fj w V)=>kU cr A n k B l s.cap x0 x1 y0 y1 V (h.below (hb.mono hB)) (by have:=hb.size;omega) hn hx hy);have hO:=ze (fun a b c d e g F(hT:0<=F)(hU:F<=127) V=>xe a b c d e g F cr.dir V (by omega) (by omega) d0 d1);have hS:=ze (fun a b c d e g F(hT:0<=F)(hU:F<=127) V(hb:fj w V)=>Ur a b c d e g F cr A n k B l V (h.below (hb.mono hB)) (by have:=hb.size;omega) hn (by omega) (by omega) d0 d1);clear hf hx hy
 go_in
 go_upto_region 1 with(fail);refine j9 (w:=w) (fun W=>MvS w W s sA sn sk cr A n k x0 x1 y0 y1) hA.o (by go_grown) (by simp;omega) ?_;rintro W hm hV H0;clear hA hV H0;have HM:=ze hm;obtain⟨⟨s0,s1,s2,s3,s4,s5,s6,s7,s8,s9,s10,s11,s12⟩,-⟩:=HM.o.s.o13;obtain⟨⟨c0,c1,c2,c3,c4,c5⟩,b0,b1,b2,b3,b4,b5⟩:=HM.o.c.o6;obtain⟨⟨u0,u1⟩,-⟩:=HM.o.x.o2;obtain⟨⟨v0,v1⟩,-⟩:=HM.o.y.o2;clear hm;go_wp2_with(first
  |(go_at_call 283;refine(hd.o _).mono ?_;rintro r w2 ⟨rfl,hk⟩;have hM:=ze (ha.o.step ((fh.alloc fi _).trans (hk.mono (by simp))));have hQ:=ze ((Bx.new w1 [O U a,O U b,O U c,O U d,O U e,O U g] 366).below hk (by simp));have H3:=ze (show w1.heap.size<w2.heap.size from by have:=hk.size;simp at this;omega);clear hk)
  |(go_at_call 228;refine(hg.o _ HM.o.b).mono ?_;rintro r w1 ⟨⟨a,b,c,d,e,g,rfl,hI⟩,hE⟩;have hD:=ze hI;clear hI;have ha:=ze (HM.o.step hE);have hY:w.heap.size<w1.heap.size:=(by have:=ha.o.z;omega);have hZ:w.heap.size+1<w1.heap.size:=(by have:=ha.o.z;omega);have H1:=ze ha.o.z;clear hE s0 s1 s2 s3 s4 s5 s6 s7 s8 s9 s10 s11 s12 c0 c1 c2 c3 c4 c5 b0 b1 b2 b3 b4 b5 u0 u1 v0 v1;obtain⟨⟨c0,c1,c2,c3,c4,c5⟩,b0,b1,b2,b3,b4,b5⟩:=ha.o.c.o6;obtain⟨⟨s0,s1,s2,s3,s4,s5,s6,s7,s8,s9,s10,s11,s12⟩,-⟩:=ha.o.s.o13))
 clear hY hZ;generalize w1.heap.size=q at*;clear HM ha hg hd s0 s1 s2 s3 s4 s5 s6 s7 s8 s9 s10 s11 s12 c0 c1 c2 c3 c4 c5 b0 b1 b2 b3 b4 b5
 go_loopw [11,12] (fun i j wr=>∃ N F:Int,i=O J N/\j=O J F/\AhP cr.pos s.gap cr.dir N F/\(cr.dir≠0->NoX s (yy s.cap l P) cr N)/\MvS w wr s sA sn sk cr A n k x0 x1 y0 y1/\Bx wr q [O U a,O U b,O U c,O U d,O U e,O U g]) (fun _ j _=>if 0<cr.dir then(127-intOf j).toNat else(intOf j).toNat)
 case atStart=>exact⟨N0,F0,rfl,rfl,hq.o,hC.o,hM.o,hQ.o⟩
 case round=>
  obtain⟨N,F,rfl,rfl,he,hF,hm,hG⟩:=hrel;have hu:=ze hF;clear hF;have h6:=ze he;have HM:=ze hm;have HS:=ze hG;have hl:=he.f0;have hp:=he.f1;have hn0:=he.n0;have H2:=he.n1;obtain⟨⟨s0,s1,s2,s3,s4,s5,s6,s7,s8,s9,s10,s11,s12⟩,-⟩:=HM.o.s.o13;obtain⟨⟨c0,c1,c2,c3,c4,c5⟩,b0,b1,b2,b3,b4,b5⟩:=HM.o.c.o6;obtain⟨⟨t0,t1,t2,t3,t4,t5⟩,-⟩:=HS.o.o6;have hc:=ze (fun V=>hO.o a b c d e g F hl hp V);have h8:=ze (fun V hb=>hS.o a b c d e g F hl hp V hb);have h7:=ze (show fj w wr from HM.o.b);have hj:=ze (hD.o.stopI hl hp d0 d1);have hi:=ze (hD.o.ofI hl hp d0 d1);clear he hm hG;rcases yd (yo a b c d e g F cr.dir l)with hx|hx
  ·have hw:=ze (hj.o.1 hx);go_wp2_with fail;refine wp_region_held_drew (S:=(fun W=>cr.K A n k W (w.heap.size+1)/\W.cell? ⟨q,0,none⟩=some (O U a)/\W.cell? ⟨q,1,none⟩=some (O U b)/\W.cell? ⟨q,2,none⟩=some (O U c)/\W.cell? ⟨q,3,none⟩=some (O U d)/\W.cell? ⟨q,4,none⟩=some (O U e)/\W.cell? ⟨q,5,none⟩=some (O U g)/\fj wr W)) (by kernel_rfl) ?_ (fun hHeld=>?_)
   ·exact⟨⟨c0,c1,c2,c3,c4,c5⟩,t0,t1,t2,t3,t4,t5,fh.drew⟩
   refine qK [0,1,2] (by simp[zl];rfl) (by kernel_rfl) (by assumption) ?_
   iterate 3 (refine qz (v:=?_) (fun _ _ _ h=>h) (by rfl) ?_ ?_;rotate_left;(next=>((intro w h5;(try dsimp only at h5);go_simp);(try with_reducible rfl)));try go_frame)
   refine qL ?_;refine jj [3] (by kernel_rfl) ?_;refine j6 (by simp[zl];rfl) rfl (fun K hK=>?_) ym;go_simp
   (go_split_ands;(with_reducible refine(h8.o _ (h7.o.trans ((‹fj wr _›).mono h7.o.size))).mono ?_);rintro r wX ⟨rfl,h3⟩;rw[hx];go_wp2_with fail)
   refine hK.out _ _ ?_ (fun hHeld=>?_)
   ·(go_split_ands;exact⟨⟨zf h3 ‹_›,zf h3 ‹_›,zf h3 ‹_›,zf h3 ‹_›,zf h3 ‹_›,zf h3 ‹_›⟩,zf h3 ‹_›,zf h3 ‹_›,zf h3 ‹_›,zf h3 ‹_›,zf h3 ‹_›,zf h3 ‹_›,(‹fj wr _›).trans (h3.mono (‹fj wr _›).size)⟩)
   clear hK K
   try go_frame
   refine qK [4,5,6,7,8,9,10,11,12,13,14,15,16,17,18,19] (by simp[zl];rfl) (by kernel_rfl) (by assumption) ?_
   iterate 2 (refine qz (v:=?_) (fun _ _ _ h=>h) (by rfl) ?_ ?_;rotate_left;(next=>((intro w h5;(try dsimp only at h5);go_simp);(try with_reducible rfl)));try go_frame)
   iterate 8 (refine ej (fun _ _ _ h=>h) (by rfl) ?_;try go_frame)
   iterate 2 (refine qz (v:=?_) (fun _ _ _ h=>h) (by rfl) ?_ ?_;rotate_left;(next=>((intro w h5;(try dsimp only at h5);go_simp);(try with_reducible rfl)));try go_frame)
   iterate 3 (refine ej (fun _ _ _ h=>h) (by rfl) ?_;try go_frame)
   iterate 1 (refine qz (v:=?_) (fun _ _ _ h=>h) (by rfl) ?_ ?_;rotate_left;(next=>((intro w h5;(try dsimp only at h5);go_simp);(try with_reducible rfl)));try go_frame)
   refine qL ?_;refine wpAnyH_done (by kernel_rfl) ?_ _;go_split_ands;have HE:=ze (‹fj wr _›);go_wp2_with fail;go_ret2;exact⟨⟨N,F,rfl,⟨h6.o.n0,h6.o.n1,h6.o.p0,h6.o.p1⟩,fun h0=>⟨F,h6.o.e h0,.inl hw.o,hu.o h0⟩⟩,h7.o.trans (HE.o.mono h7.o.size)⟩
  ·have HX:=ze hx;rcases Int.decEq (qD a b c d e g F cr.dir) cr.dir with ho|ho
   ·have hX:(qD a b c d e g F cr.dir==cr.dir)=false:=by simpa using ho
    have hP:=ze (show(yy s.cap l P).of F cr.dir≠cr.dir from fun h=>ho (hi.o.trans h));clear ho hi hj;generalize qD a b c d e g F cr.dir=D at*;go_wp2_with fail;refine wp_region_held_drew (S:=(fun W=>cr.K A n k W (w.heap.size+1)/\W.cell? ⟨q,0,none⟩=some (O U a)/\W.cell? ⟨q,1,none⟩=some (O U b)/\W.cell? ⟨q,2,none⟩=some (O U c)/\W.cell? ⟨q,3,none⟩=some (O U d)/\W.cell? ⟨q,4,none⟩=some (O U e)/\W.cell? ⟨q,5,none⟩=some (O U g)/\fj wr W)) (by kernel_rfl) ?_ (fun hHeld=>?_)
    ·exact⟨⟨c0,c1,c2,c3,c4,c5⟩,t0,t1,t2,t3,t4,t5,fh.drew⟩
    refine qK [0,1,2] (by simp[zl];rfl) (by kernel_rfl) (by assumption) ?_
    iterate 3 (refine qz (v:=?_) (fun _ _ _ h=>h) (by rfl) ?_ ?_;rotate_left;(next=>((intro w h5;(try dsimp only at h5);go_simp);(try with_reducible rfl)));try go_frame)
    refine qL ?_;refine jj [3] (by kernel_rfl) ?_;refine j6 (by simp[zl];rfl) rfl (fun K hK=>?_) ym;go_simp
    (go_split_ands;(with_reducible refine(h8.o _ (h7.o.trans ((‹fj wr _›).mono h7.o.size))).mono ?_);rintro r wX ⟨rfl,h3⟩;rw[hx];go_wp2_with fail)
    refine hK.out _ _ ?_ (fun hHeld=>?_)
    ·(go_split_ands;exact⟨⟨zf h3 ‹_›,zf h3 ‹_›,zf h3 ‹_›,zf h3 ‹_›,zf h3 ‹_›,zf h3 ‹_›⟩,zf h3 ‹_›,zf h3 ‹_›,zf h3 ‹_›,zf h3 ‹_›,zf h3 ‹_›,zf h3 ‹_›,(‹fj wr _›).trans (h3.mono (‹fj wr _›).size)⟩)
    clear hK K
    try go_frame
    refine qK [4,5,6,7,8,9,11,12] (by simp[zl];rfl) (by kernel_rfl) (by assumption) ?_
    iterate 8 (refine qz (v:=?_) (fun _ _ _ h=>h) (by rfl) ?_ ?_;rotate_left;(next=>((intro w h5;(try dsimp only at h5);go_simp);(try with_reducible rfl)));try go_frame)
    refine qL ?_;refine jj [10] (by kernel_rfl) ?_;refine j6 (by simp[zl];rfl) rfl (fun K hK=>?_) ym;go_simp
    (go_split_ands;(with_reducible refine(hc.o _).mono ?_);rintro r wY ⟨rfl,h4⟩;go_wp2_with fail)
    refine hK.out _ _ ?_ (fun hHeld=>?_)
    ·(go_split_ands;exact⟨⟨zf h4 ‹_›,zf h4 ‹_›,zf h4 ‹_›,zf h4 ‹_›,zf h4 ‹_›,zf h4 ‹_›⟩,zf h4 ‹_›,zf h4 ‹_›,zf h4 ‹_›,zf h4 ‹_›,zf h4 ‹_›,zf h4 ‹_›,(‹fj wr _›).trans (h4.mono (‹fj wr _›).size)⟩)
    clear hK K
    try go_frame
    refine qK [13,14,15,16,17,18,19] (by simp[zl];rfl) (by kernel_rfl) (by assumption) ?_
    iterate 3 (refine qz (v:=?_) (fun _ _ _ h=>h) (by rfl) ?_ ?_;rotate_left;(next=>((intro w h5;(try dsimp only at h5);go_simp);(try with_reducible rfl)));try go_frame)
    iterate 3 (refine ej (fun _ _ _ h=>h) (by rfl) ?_;try go_frame)
    iterate 1 (refine qz (v:=?_) (fun _ _ _ h=>h) (by rfl) ?_ ?_;rotate_left;(next=>((intro w h5;(try dsimp only at h5);go_simp);(try with_reducible rfl)));try go_frame)
    refine qL ?_;refine wpAnyH_done (by kernel_rfl) ?_ _;go_split_ands;have HE:=ze (‹fj wr _›);go_wp2_with fail;go_ret2;exact⟨⟨N,F,rfl,⟨h6.o.n0,h6.o.n1,h6.o.p0,h6.o.p1⟩,fun h0=>⟨F,h6.o.e h0,.inr hP.o,hu.o h0⟩⟩,h7.o.trans (HE.o.mono h7.o.size)⟩
   ·have hN:=ze ho;have hX:(qD a b c d e g F cr.dir==cr.dir)=true:=by simpa using ho
    have HD:=ze (fun h0=>Uu HX.o hN.o h0 d0 d1);have ht:=ze (show¬((yy s.cap l P).stop F cr.dir\/(yy s.cap l P).of F cr.dir≠cr.dir)from fun h=>h.elim (fun h=>by have:=hj.o.2 h;rw[HX.o]at this;cases this) (fun h=>h (hi.o.symm.trans ho)));clear ho hi hj;generalize qD a b c d e g F cr.dir=D at*;by_cases h9:cr.dir=0
    ·have hW:(cr.dir !=0)=false:=by simpa using h9
     have hJ:=ze h9;clear h9 ht;go_wp2_with fail;refine wp_region_held_drew (S:=(fun W=>cr.K A n k W (w.heap.size+1)/\W.cell? ⟨q,0,none⟩=some (O U a)/\W.cell? ⟨q,1,none⟩=some (O U b)/\W.cell? ⟨q,2,none⟩=some (O U c)/\W.cell? ⟨q,3,none⟩=some (O U d)/\W.cell? ⟨q,4,none⟩=some (O U e)/\W.cell? ⟨q,5,none⟩=some (O U g)/\fj wr W)) (by kernel_rfl) ?_ (fun hHeld=>?_)
     ·exact⟨⟨c0,c1,c2,c3,c4,c5⟩,t0,t1,t2,t3,t4,t5,fh.drew⟩
     refine qK [0,1,2] (by simp[zl];rfl) (by kernel_rfl) (by assumption) ?_
     iterate 3 (refine qz (v:=?_) (fun _ _ _ h=>h) (by rfl) ?_ ?_;rotate_left;(next=>((intro w h5;(try dsimp only at h5);go_simp);(try with_reducible rfl)));try go_frame)
     refine qL ?_;refine jj [3] (by kernel_rfl) ?_;refine j6 (by simp[zl];rfl) rfl (fun K hK=>?_) ym;go_simp
     (go_split_ands;(with_reducible refine(h8.o _ (h7.o.trans ((‹fj wr _›).mono h7.o.size))).mono ?_);rintro r wX ⟨rfl,h3⟩;rw[hx];go_wp2_with fail)
     refine hK.out _ _ ?_ (fun hHeld=>?_)
     ·(go_split_ands;exact⟨⟨zf h3 ‹_›,zf h3 ‹_›,zf h3 ‹_›,zf h3 ‹_›,zf h3 ‹_›,zf h3 ‹_›⟩,zf h3 ‹_›,zf h3 ‹_›,zf h3 ‹_›,zf h3 ‹_›,zf h3 ‹_›,zf h3 ‹_›,(‹fj wr _›).trans (h3.mono (‹fj wr _›).size)⟩)
     clear hK K
     try go_frame
     refine qK [4,5,6,7,8,9,11,12] (by simp[zl];rfl) (by kernel_rfl) (by assumption) ?_
     iterate 8 (refine qz (v:=?_) (fun _ _ _ h=>h) (by rfl) ?_ ?_;rotate_left;(next=>((intro w h5;(try dsimp only at h5);go_simp);(try with_reducible rfl)));try go_frame)
     refine qL ?_;refine jj [10] (by kernel_rfl) ?_;refine j6 (by simp[zl];rfl) rfl (fun K hK=>?_) ym;go_simp
     (go_split_ands;(with_reducible refine(hc.o _).mono ?_);rintro r wY ⟨rfl,h4⟩;go_wp2_with fail)
     refine hK.out _ _ ?_ (fun hHeld=>?_)
     ·(go_split_ands;exact⟨⟨zf h4 ‹_›,zf h4 ‹_›,zf h4 ‹_›,zf h4 ‹_›,zf h4 ‹_›,zf h4 ‹_›⟩,zf h4 ‹_›,zf h4 ‹_›,zf h4 ‹_›,zf h4 ‹_›,zf h4 ‹_›,zf h4 ‹_›,(‹fj wr _›).trans (h4.mono (‹fj wr _›).size)⟩)
     clear hK K
     try go_frame
     refine qK [13,14,15,16,17,18,19] (by simp[zl];rfl) (by kernel_rfl) (by assumption) ?_
     iterate 7 (refine qz (v:=?_) (fun _ _ _ h=>h) (by rfl) ?_ ?_;rotate_left;(next=>((intro w h5;(try dsimp only at h5);go_simp);(try with_reducible rfl)));try go_frame)
     refine qL ?_;refine wpAnyH_done (by kernel_rfl) ?_ _;go_split_ands;have HE:=ze (‹fj wr _›);go_wp2_with fail;go_ret2;exact⟨⟨N,F,rfl,⟨h6.o.n0,h6.o.n1,h6.o.p0,h6.o.p1⟩,fun h0=>absurd hJ.o h0⟩,h7.o.trans (HE.o.mono h7.o.size)⟩
    ·have hW:(cr.dir !=0)=true:=by simpa using h9
     have hz:=HD.o h9;have hd:=ze (h6.o.next g0 g1 p0 p1 hz);have hL:=ze hz;have hv:=ze (fun _:cr.dir≠0=>(hu.o h9).next g0 d0 d1 h9 (h6.o.e h9) ht.o);have ew0:IntKind.i64.wrap (N+s.gap)=N+s.gap:=by rw[JH];omega
     have ew1:IntKind.i64.wrap (F+cr.dir)=F+cr.dir:=by rw[JH];omega
     clear h9 hz ht;go_wp2_with fail;refine wp_region_held_drew (S:=(fun W=>cr.K A n k W (w.heap.size+1)/\W.cell? ⟨q,0,none⟩=some (O U a)/\W.cell? ⟨q,1,none⟩=some (O U b)/\W.cell? ⟨q,2,none⟩=some (O U c)/\W.cell? ⟨q,3,none⟩=some (O U d)/\W.cell? ⟨q,4,none⟩=some (O U e)/\W.cell? ⟨q,5,none⟩=some (O U g)/\fj wr W)) (by kernel_rfl) ?_ (fun hHeld=>?_)
     ·exact⟨⟨c0,c1,c2,c3,c4,c5⟩,t0,t1,t2,t3,t4,t5,fh.drew⟩
     refine qK [0,1,2] (by simp[zl];rfl) (by kernel_rfl) (by assumption) ?_
     iterate 3 (refine qz (v:=?_) (fun _ _ _ h=>h) (by rfl) ?_ ?_;rotate_left;(next=>((intro w h5;(try dsimp only at h5);go_simp);(try with_reducible rfl)));try go_frame)
     refine qL ?_;refine jj [3] (by kernel_rfl) ?_;refine j6 (by simp[zl];rfl) rfl (fun K hK=>?_) ym;go_simp
     (go_split_ands;(with_reducible refine(h8.o _ (h7.o.trans ((‹fj wr _›).mono h7.o.size))).mono ?_);rintro r wX ⟨rfl,h3⟩;rw[hx];go_wp2_with fail)
     refine hK.out _ _ ?_ (fun hHeld=>?_)
     ·(go_split_ands;exact⟨⟨zf h3 ‹_›,zf h3 ‹_›,zf h3 ‹_›,zf h3 ‹_›,zf h3 ‹_›,zf h3 ‹_›⟩,zf h3 ‹_›,zf h3 ‹_›,zf h3 ‹_›,zf h3 ‹_›,zf h3 ‹_›,zf h3 ‹_›,(‹fj wr _›).trans (h3.mono (‹fj wr _›).size)⟩)
     clear hK K
     try go_frame
     refine qK [4,5,6,7,8,9,11,12] (by simp[zl];rfl) (by kernel_rfl) (by assumption) ?_
     iterate 8 (refine qz (v:=?_) (fun _ _ _ h=>h) (by rfl) ?_ ?_;rotate_left;(next=>((intro w h5;(try dsimp only at h5);go_simp);(try with_reducible rfl)));try go_frame)
     refine qL ?_;refine jj [10] (by kernel_rfl) ?_;refine j6 (by simp[zl];rfl) rfl (fun K hK=>?_) ym;go_simp
     (go_split_ands;(with_reducible refine(hc.o _).mono ?_);rintro r wY ⟨rfl,h4⟩;go_wp2_with fail)
     refine hK.out _ _ ?_ (fun hHeld=>?_)
     ·(go_split_ands;exact⟨⟨zf h4 ‹_›,zf h4 ‹_›,zf h4 ‹_›,zf h4 ‹_›,zf h4 ‹_›,zf h4 ‹_›⟩,zf h4 ‹_›,zf h4 ‹_›,zf h4 ‹_›,zf h4 ‹_›,zf h4 ‹_›,zf h4 ‹_›,(‹fj wr _›).trans (h4.mono (‹fj wr _›).size)⟩)
     clear hK K
     try go_frame
     refine qK [13,14,15,16,17,18,19] (by simp[zl];rfl) (by kernel_rfl) (by assumption) ?_
     iterate 7 (refine qz (v:=?_) (fun _ _ _ h=>h) (by rfl) ?_ ?_;rotate_left;(next=>((intro w h5;(try dsimp only at h5);go_simp);(try with_reducible rfl)));try go_frame)
     refine qL ?_;refine wpAnyH_done (by kernel_rfl) ?_ _;go_split_ands;have HE:=ze (‹fj wr _›);have hr:=ze (HM.o.step HE.o);have hR:=ze (HS.o.below HE.o (HS.o.lt (by simp)));obtain⟨⟨z0,z1,z2,z3,z4,z5,z6,z7,z8,z9,z10,z11,z12⟩,-⟩:=hr.o.s.o13;obtain⟨⟨y0,y1,y2,y3,y4,y5⟩,-⟩:=hr.o.c.o6;go_wp2_with fail;go_quiet(fail);go_wp2_with fail;go_roundw
     case rel=>exact⟨N+s.gap,F+cr.dir,rfl,rfl,hd.o,hv.o,hr.o.drewN _,hR.o.drewN _⟩
     case measure=>
      have h1:=hL.o;simp only[intOf];rcases h1 with⟨h1,h2⟩|⟨h1,h2⟩
      ·rw[h1];simp;omega
      ·rw[h1];simp;omega
structure NextP(g:Int)(c:Cr)(N:Int):Prop where
 n0:1<=N
 n1:N<=3001
 door:c.mode=2\/c.mode=3\/c.mode=4->N=c.left
 ride:c.mode=1->0<=c.pos+c.dir*(N-1)/\c.pos+c.dir*(N-1)<=127*g
def NextR(s:Sc)(v:Vw)(c:Cr)(r:Ending):Prop:=(∃N,r=.returned (.tuple #[O J N,.bool true])/\NextP s.gap c N/\NextX s v c N)\/(r=.returned (.tuple #[O J 0,.bool false])/\¬ (c.mode=1\/c.mode=2\/c.mode=3\/c.mode=4)/\∀ n:Nat,n<128->¬ v.W n)
theorem Xs(s:Sc)(hs:s.ok)(sA:iX)(sn sk:Nat)(cr:Cr)(A:iX)(n k B:Nat)(l:List Rid)(x0 x1 y0 y1:Int)(w:l6)(h:Rds w B A n l)(hB:B<=w.heap.size)(hn:n<=1000000)
  (p0:0<=cr.pos)(p1:cr.pos<=127*s.gap)(d0: -1<=cr.dir)(d1:cr.dir<=1)(hl:cr.mode=2\/cr.mode=3\/cr.mode=4->1<=cr.left/\cr.left<=64){P:Int->Int->Prop}(hx:SetOf x0 x1 (P 1))(hy:SetOf y0 y1 (P (-1))):
  Calls prog 245 #[s.v sA sn sk,cr.v A n k,zy x0 x1,zy y0 y1] w fun r w'=>NextR s (yy s.cap l P) cr r/\fj w w':=by
 by_cases hd:cr.mode=2\/cr.mode=3\/cr.mode=4
 ·have HR:=ze (show NextR s (yy s.cap l P) cr (.returned (.tuple #[O J cr.left,.bool true]))from .inl ⟨_,rfl,⟨by have:=hl hd;omega,by have:=hl hd;omega,fun _=>rfl,fun h=>by omega⟩,by have:=hl hd;omega,fun _=>rfl,fun h=>by omega,fun h=>by omega⟩);clear hl hx hy;rcases hd with h2|h2|h2
  all_goals
   go_in
   go_wp2_with fail;go_ret2;exact⟨HR.o,by go_grown⟩
 ·have hO:(cr.mode==2)=false:=by simp;omega
  have hP:(cr.mode==3)=false:=by simp;omega
  have hQ:(cr.mode==4)=false:=by simp;omega
  have HD:=ze hd;clear hl hd;have g0:=hs.gap.1;have g1:=hs.gap.2;by_cases h1:cr.mode=1
  ·have hF:=ze (fun V(hb:fj w V)=>Xr s hs sA sn sk cr A n k B l x0 x1 y0 y1 V (h.below (hb.mono hB)) (by have:=hb.size;omega) hn p0 p1 d0 d1 hx hy);have H1:=ze h1;have e1:(cr.mode==1)=true:=by simpa using h1
   clear h h1 hx hy;have hA:=ze (show fj w ((((w.alloc (.cells #[O J s.fl,O J s.gap,O J s.cars,O J s.cap,O J s.opn,O J s.dw,O J s.cl,O J s.tr,.slice sA sn sk,O J s.disp,O J s.hor,O J s.bins,O J s.width] 25)).alloc (.cells (cr.cells A n k) 265)).alloc (.cells #[O U x0,O U x1] 325)).alloc (.cells #[O U y0,O U y1] 325))from by go_grown)
   go_in
   go_wp2_with(go_at_call 269;refine(hF.o _ hA.o).mono ?_;rintro r w1 ⟨⟨N,F,rfl,k0,k1⟩,hi⟩;have HP:=ze k0;have HQ:=ze k1;clear k0 k1);go_ret2;obtain⟨k0,k1,k2,k3⟩:=HP.o;exact⟨.inl ⟨N+1,rfl,⟨by omega,by omega,fun h=>absurd h HD.o,fun _=>by rw[show N+1-1=N by omega];exact⟨k2,k3⟩⟩,by omega,fun h=>absurd h HD.o,fun h=>by have:=H1.o;omega,fun _ h0=>by rw[show N+1-1=N by omega];exact HQ.o h0⟩,hA.o.trans (hi.mono (by simp;omega))⟩
  ·have e1:(cr.mode==1)=false:=by simpa using h1
   have hG:=ze (show(∀n:Nat,n<128->¬ (yy s.cap l P).W n)->NextR s (yy s.cap l P) cr (.returned (.tuple #[O J 0,.bool false]))from fun hw=>.inr ⟨rfl,by have:=HD.o;omega,hw⟩);have h7:=ze (show NextR s (yy s.cap l P) cr (.returned (.tuple #[O J 1,.bool true]))from .inl ⟨1,rfl,⟨by omega,by omega,fun h=>absurd h HD.o,fun h=>absurd h h1⟩,by omega,fun h=>absurd h HD.o,fun _=>rfl,fun h=>absurd h h1⟩);clear h1;have h4:=dv cr.pos s.gap g0 g1 p0 p1;generalize cr.pos/s.gap=f at h4;generalize cr.pos%s.gap=r at h4;have HF:=ze (fun V=>jB cr.pos s.gap f r V h4.e h4.f0 h4.r0 h4.r1 (by have:=h4.rng g0 g1;omega));have hC:=h4.f0;have hD:=h4.f1;have ha:=ze (fun V(hb:fj w V)=>kU cr A n k B l s.cap x0 x1 y0 y1 V (h.below (hb.mono hB)) (by have:=hb.size;omega) hn hx hy);have hu:=ze (fun a b c d e g V=>xe a b c d e g f 0 V (by omega) (by omega) (by omega) (by omega));have hz:=ze (fun a b c d e g V(hb:fj w V)=>Ur a b c d e g f cr A n k B l V (h.below (hb.mono hB)) (by have:=hb.size;omega) hn (by omega) (by omega) d0 d1);clear h h4 hx hy;have hp:=ze (MvS.new w s sA sn sk cr A n k x0 x1 y0 y1 25 265 325 325)
   go_in
   go_upto_region 1 with(fail);refine j9 (w:=w) (fun W=>MvS w W s sA sn sk cr A n k x0 x1 y0 y1) hp.o (by go_grown) (by simp;omega) ?_;rintro W hm hJ hN;clear hp hJ hN;have HM:=ze hm;obtain⟨⟨s0,s1,s2,s3,s4,s5,s6,s7,s8,s9,s10,s11,s12⟩,-⟩:=HM.o.s.o13;obtain⟨⟨c0,c1,c2,c3,c4,c5⟩,-⟩:=HM.o.c.o6;obtain⟨⟨u0,u1⟩,-⟩:=HM.o.x.o2;obtain⟨⟨v0,v1⟩,-⟩:=HM.o.y.o2;clear hm;go_upto_region 11 with(first
    |(go_at_call 227;refine(HF.o _).mono ?_;rintro e w1 ⟨rfl,m,rfl⟩)
    |(go_at_call 228;refine(ha.o _ (zg HM.o.b m)).mono ?_;rintro r w1 ⟨⟨a,b,c,d,e,g,rfl,hE⟩,hi⟩;have hv:=ze hE;clear hE;have hq:=ze ((HM.o.drewN m).step hi)))
   refine j9 (w:=w1) (fun W=>Bx W w1.heap.size [O U a,O U b,O U c,O U d,O U e,O U g]) (Bx.new w1 _ _) (by go_grown) (by simp) ?_;rintro W2 ht hc hf;have HT:=ze ht;have hr:=ze (hq.o.step hc);have HZ:=ze hf;clear hq HM ha HF ht hc hf s0 s1 s2 s3 s4 s5 s6 s7 s8 s9 s10 s11 s12 c0 c1 c2 c3 c4 c5 u0 u1 v0 v1;generalize w1.heap.size=q at*;obtain⟨⟨c0,c1,c2,c3,c4,c5⟩,-⟩:=hr.o.c.o6;obtain⟨⟨t0,t1,t2,t3,t4,t5⟩,-⟩:=HT.o.o6;have h3:=ze hr.o.b;have h6:=ze (fun V(hb:fj w V)=>hz.o a b c d e g V hb);have h9:=ze (fun V=>hu.o a b c d e g V);clear hz hu;by_cases he:cr.dir=0
   ·have e2:(cr.dir==0)=true:=by simpa using he
    have hk:=ze he;clear he;rcases yd (yo a b c d e g f cr.dir l)with hx|hx
    ·go_wp2_with(go_at_call 230;(with_reducible refine(h6.o _ h3.o).mono ?_);rintro r w3 ⟨rfl,h5⟩;rw[hx]);go_ret2;exact⟨h7.o,h3.o.trans (h5.mono h3.o.size)⟩
    ·have hR:=ze h3.o.size;rcases Int.decEq (qD a b c d e g f 0) 0 with ho|ho
     ·have hL:(qD a b c d e g f 0==0)=false:=by simpa using ho
      clear ho;generalize qD a b c d e g f 0=D at*;go_wp2_with(first
       |(go_at_call 229;(with_reducible refine(h9.o _).mono ?_);rintro r w4 ⟨rfl,hj⟩)
       |(go_at_call 230;(with_reducible refine(h6.o _ h3.o).mono ?_);rintro r w3 ⟨rfl,h5⟩;rw[hx];have hg:=ze (HT.o.below h5 HZ.o);have h8:=ze (h3.o.trans (h5.mono h3.o.size));clear t0 t1 t2 t3 t4 t5 c0 c1 c2 c3 c4 c5 h5;obtain⟨⟨t0,t1,t2,t3,t4,t5⟩,-⟩:=hg.o.o6))
      go_ret2;exact⟨h7.o,h8.o.trans (hj.mono h8.o.size)⟩
     ·have hL:(qD a b c d e g f 0==0)=true:=by simpa using ho
      have hI:=ze (show∀n:Nat,n<128->¬ (yy s.cap l P).W n from fun n hn hw=>(Vw.on_of (.inl hk.o) ⟨n,hn,hw⟩ (fun hM=>by rw[(hv.o.stopI hC hD d0 d1).2 hM]at hx;cases hx)).1 (by rw[hk.o,<-hv.o.ofI hC hD (by omega) (by omega)];exact ho));clear ho;generalize qD a b c d e g f 0=D at*;go_wp2_with(first
       |(go_at_call 229;(with_reducible refine(h9.o _).mono ?_);rintro r w4 ⟨rfl,hj⟩)
       |(go_at_call 230;(with_reducible refine(h6.o _ h3.o).mono ?_);rintro r w3 ⟨rfl,h5⟩;rw[hx];have hg:=ze (HT.o.below h5 HZ.o);have h8:=ze (h3.o.trans (h5.mono h3.o.size));clear t0 t1 t2 t3 t4 t5 c0 c1 c2 c3 c4 c5 h5;obtain⟨⟨t0,t1,t2,t3,t4,t5⟩,-⟩:=hg.o.o6))
      go_ret2;exact⟨hG.o hI.o,h8.o.trans (hj.mono h8.o.size)⟩
   ·have e2:(cr.dir==0)=false:=by simpa using he
    clear he;go_wp2_with fail;go_ret2;exact⟨h7.o,h3.o⟩
end
end Go.Proofs.YtdeogmbfgkepeaaGreatDoor
