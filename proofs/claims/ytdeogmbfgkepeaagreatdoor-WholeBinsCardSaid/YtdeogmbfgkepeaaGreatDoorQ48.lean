/- Contracts that WholeBins needs. Each tells its conditions. -/
import Derived.Test.YtdeogmbfgkepeaaGreatDoorQ43
import Derived.Test.YtdeogmbfgkepeaaGreatDoorQ47
set_option linter.unusedVariables false
set_option linter.unusedSimpArgs false
set_option maxRecDepth 100000
set_option maxHeartbeats 64000000
namespace Go.Proofs.YtdeogmbfgkepeaaGreatDoor
open Go.Proofs.Tryz
open Go.Value renaming int->O
open Go.IntKind renaming i64->J
section
open Go.RowKit HB Go.Maps CalP
theorem XC(base:Nat)(s:Sc)(hs:s.ok)(sA:Option Addr)(sn sk wb h:Nat)(w:World)(S:HS)(g n ck:Nat)(tv:Value)(L:List Ca)(trips:List Tr)(T:Int)(i:Nat)(x:Ca)
  (H:Wd base s sA sn sk wb h w S (.slice (some ⟨g,0,none⟩) n ck) tv L trips T)(hn:L.length=n)(hnk:n<=ck)(hn1:n<=1000)(hi:L[i]?=some x)(hok:x.ok s.gap)(hm:x.c.mode=2\/x.c.mode=3)(hl:x.c.left=1)(hnw:S.nw<=1000000)(hid:∀ r∈x.l,0<=r.id/\r.id<trips.length)(hwid:∀ k,∀x∈S.L k,0<=x.id/\x.id<trips.length)(htl:trips.length<=10000000):
  Calls prog 143 #[.pointer (some ⟨wb,0,none⟩),O J (i:Int)] w (Uw base s sA sn sk wb h w S (.slice (some ⟨g,0,none⟩) n ck) tv L trips T i x):=by
 obtain⟨tA,tn,tc,htv,-,-⟩:=HB.Own.slice H.tr;subst htv;have hri2:=(H.ri x (List.mem_of_getElem? hi)).2;have HWD:=ze H;have HI:=ze hi;have HN:=ze hn;have hil:i<n:=by have:=(List.getElem?_eq_some_iff.1 hi).1;omega
 have HRI:=ze (H.ri x (List.mem_of_getElem? hi)).1;have HBX:=ze H.bx;have hwb:=H.bx.lt (by simp);have hgl:=(H.cr.lt (k:=g) rfl).2;have p0:=hok.p0;have p1:=hok.p1;have d0:=hok.d0;have d1:=hok.d1;have n1:=hok.n1;have b0:=H.cr.elem_cell zh hn hi (show 0<6 by omega) rfl;have b1:=(H.cr.elem_cell zh hn hi (show 1<6 by omega) rfl).1;have b2:=(H.cr.elem_cell zh hn hi (show 2<6 by omega) rfl).1;have b3:=(H.cr.elem_cell zh hn hi (show 3<6 by omega) rfl).1;have b4:=(H.cr.elem_cell zh hn hi (show 4<6 by omega) rfl).1;have b5:=(H.cr.elem_cell zh hn hi (show 5<6 by omega) rfl).1;have b0:w.cell? ⟨g,i*6,none⟩=some (O J x.c.pos):=b0.1;have i0:(0:Int)<=(i:Int):=by omega
 have i1:(i:Int)<(n:Int):=by omega
 obtain⟨c,A,rn,rk,l⟩:=x;obtain⟨⟨x0,x1,x2,x3,x4,x5,x6,x7,x8,x9,x10,x11,x12,x13,x14,x15,x16⟩,-⟩:=H.bx.o17;clear x0 x1 x2 x3 x4 x5 x6 x7 x8 x9 x10 x11 x12 x13 x15 x16;have hil':i<=n:=by omega
 have hcg:=hgl;simp only at hm hl hid hri2 p0 p1 d0 d1 n1 b0 b1 b2 b3 b4 b5;clear H hi hn hok;have m0:(c.mode==0)=false:=by(simp;omega)
 have m1:(c.mode==1)=false:=by(simp;omega)
 have m4:(c.mode==4)=false:=by(simp;omega)
 have HM:=ze hm;have HL:=ze hl;have l1:(c.left-1==0)=true:=by simp;omega
 have HL0:=ze (show c.left-1=0 by omega);have hl9:1<=c.left:=by omega
 have hl8:c.left<=64:=by omega
 have HXR:=ze (fun b off(e:A=some ⟨b,off,none⟩)=>(HWD.o.s4 b ⟨_,List.mem_of_getElem? HI.o,off,e⟩));have HSRV:=ze (fun W(hb:Below w.heap.size w W)=>KT s hs sA sn sk h tA tn tc (i:Int) T base ⟨c.pos,c.dir,c.mode,0,c.wt⟩ A rn rk w.heap.size l trips S W (HRI.o.below hb) hb.size n1 hri2 (HWD.o.hl.below hb) hnw (fun b off e hx=>(HXR.o b off e).2.2 (.inr (.inl hx))) (HWD.o.tr.below hb) (fun q hq=>(HWD.o.s3 q hq).2) hid hwid htl (by omega) (by omega) p0 p1 d0 d1 (fun b off e=>Nat.lt_of_lt_of_le (HXR.o b off e).2.1 hb.size));clear hm hl hid hwid hri2;go_enter func143,ntmps143;go_upto_region 2 with(fail);refine zq (w:=w) (fun V=>Bx V w.heap.size (c.lv (.slice A rn rk))/\w.heap.size<V.heap.size) ⟨Bx.new w (c.lv (.slice A rn rk)) 265,by simp⟩ ((Below.refl w.heap.size w).alloc fi _) ?_;rintro V ⟨hq,hzV⟩ hbV;have HQ:=ze hq;have HBV:=ze hbV;obtain⟨⟨c0,c1,c2,c3,c4,c5⟩,e0,e1,e2,e3,e4,e5⟩:=HQ.o.o6;clear hq hbV b0 b1 b2 b3 b4 b5 x14;clear e0 e1 e2 e4 e5;go_upto_region 6 with(fail);refine qj (w:=w) (W:=V.setCell ⟨w.heap.size,3,none⟩ (O J (c.left-1))) (fun V2=>Bx V2 w.heap.size (Cr.lv ⟨c.pos,c.dir,c.mode,0,c.wt⟩ (.slice A rn rk))/\w.heap.size<V2.heap.size) ⟨by have h3:=HQ.o.set 3 (O J (c.left-1));rw[HL0.o]at h3⊢;exact h3,by simpa using hzV⟩ (HBV.o.setCell (p:=⟨w.heap.size,3,none⟩) fi _) ?_;clear c0 c1 c2 c3 c4 c5 e3 HQ hzV HBV;rintro V2 ⟨hq,hz2⟩ hb2;have HQ:=ze hq;have HB2:=ze hb2;clear hq hb2
 go_cut [7] (fun v wx=>∃ q7:Nat,v=.pointer (some ⟨q7,0,none⟩)/\V2.heap.size<=q7/\q7<wx.heap.size/\Bx wx q7 (ZD s sA sn sk h (.slice tA tn tc) (i:Int) T)/\Below V2.heap.size V2 wx)
 case first=>
  have HBX2:=ze (HBX.o.below HB2.o hwb);have hwb2:wb<V2.heap.size:=by omega
  have MK:=ze (fun W(hb:Below V2.heap.size V2 W)=>(show s.K sA sn sk W wb/\W.cell? ⟨wb,13,none⟩=some (.pointer (some ⟨h,0,none⟩))/\W.cell? ⟨wb,14,none⟩=some (.slice (some ⟨g,0,none⟩) n ck)/\W.cell? ⟨wb,15,none⟩=some (.slice tA tn tc)/\W.cell? ⟨wb,16,none⟩=some (O J T)/\Below V2.heap.size V2 W from⟨(HBX2.o.below hb hwb2).k13 rfl,((HBX2.o.below hb hwb2) 13 _ rfl).1,((HBX2.o.below hb hwb2) 14 _ rfl).1,((HBX2.o.below hb hwb2) 15 _ rfl).1,((HBX2.o.below hb hwb2) 16 _ rfl).1,hb⟩))
  go_region_held3 (fun W=>s.K sA sn sk W wb/\W.cell? ⟨wb,13,none⟩=some (.pointer (some ⟨h,0,none⟩))/\W.cell? ⟨wb,14,none⟩=some (.slice (some ⟨g,0,none⟩) n ck)/\W.cell? ⟨wb,15,none⟩=some (.slice tA tn tc)/\W.cell? ⟨wb,16,none⟩=some (O J T)/\Below V2.heap.size V2 W)
   (((refine MK.o _ ?_);(first|(with_reducible exact fh.drew)|(go_grown;done))))
   (fail)
  all_goals(
   go_wp2_with fail
   go_meet
   exact⟨V2.heap.size,rfl,fi,by simp,Bx.new V2.drew (ZD s sA sn sk h (.slice tA tn tc) (i:Int) T) 328,by go_grown⟩)
 case rest=>
 obtain⟨q7,rfl,hq7,hq7z,hst,hbw⟩:=hcut;obtain⟨V3,hV3⟩:∃ V3,V3=wc:=⟨_,rfl⟩;subst hV3;have HST:=ze hst;have HQ3:=ze (HQ.o.below hbw hz2);have HB3:=ze (HB2.o.trans (hbw.mono (by omega)));have HSV:=ze (HSRV.o V3 HB3.o);have hz3:=hbw.size;clear hst hbw HQ HSRV;obtain⟨⟨x0,x1,x2,x3,x4,x5,x6,x7,x8,x9,x10,x11,x12,x13,x14,x15,x16⟩,-⟩:=HST.o.o17;obtain⟨⟨c0,c1,c2,c3,c4,c5⟩,e0,e1,e2,e3,e4,e5⟩:=HQ3.o.o6;clear e0 e1 e2 e3 e4 e5;go_upto_region 15 with(go_at_call 193;refine HSV.o.mono ?_;rintro r w5 ⟨D,c',l',trips',L',A',n',k',S',gone,rfl,D0,D1,hrel,hS⟩;have HREL:=ze hrel;have HS:=ze (hS.from_ HB3.o);have HAQ:=ze (fun b off(e:A'=some ⟨b,off,none⟩)=>(show b≠w.heap.size from by(rcases(hS.rb b off e).1 with h1|⟨o,h1⟩);(omega);(have:=(HXR.o b o h1).2.1;omega)));have HXQ:=ze (fun(hp:Xh S' h w.heap.size)=>(show False from by have h1:=hS.hh.x _ (by omega) hp;have:=HWD.o.hl.xlt h1;omega));have hz5:=hS.but.size;have HQ5:=ze (HQ3.o.but hS.but (by omega) (fun hx=>by(rcases hx with hx|hx);(have:=(HWD.o.tr.lt hx).2;omega);(have:=HWD.o.hl.xlt hx;omega)));clear hrel hS c0 c1 c2 c3 c4 c5 x0 x1 x2 x3 x4 x5 x6 x7 x8 x9 x10 x11 x12 x13 x14 x15 x16;obtain⟨⟨c0,c1,c2,c3,c4,c5⟩,e0,e1,e2,e3,e4,e5⟩:=HQ5.o.o6);refine kx (W:=((((((w5.setCell ⟨w.heap.size,0,none⟩ (O J c'.pos)).setCell ⟨w.heap.size,1,none⟩ (O J c'.dir)).setCell ⟨w.heap.size,2,none⟩ (O J c'.mode)).setCell ⟨w.heap.size,3,none⟩ (O J c'.left)).setCell ⟨w.heap.size,4,none⟩ (.bool c'.wt)).setCell ⟨w.heap.size,5,none⟩ (.slice A' n' k'))) (fun V4=>Bx V4 w.heap.size (c'.lv (.slice A' n' k'))/\w.heap.size<V4.heap.size/\ServS base A (.slice tA tn tc) h S trips' L' l' A' n' k' S' w V4) ⟨(((((HQ5.o.set 0 _).set 1 _).set 2 _).set 3 _).set 4 _).set 5 _,by simp;omega,ServS.sets (q:=w.heap.size) fi HAQ.o HXQ.o (fun p hp e=>by have:=(HWD.o.tr.lt hp).2;omega) [(0,O J c'.pos),(1,O J c'.dir),(2,O J c'.mode),(3,O J c'.left),(4,.bool c'.wt),(5,.slice A' n' k')] _ HS.o⟩ ?_;clear c0 c1 c2 c3 c4 c5 e0 e1 e2 e3 e4 e5 HQ5 HS;rintro V4 ⟨hq4,hz4,hS⟩;have HS:=ze hS;have HF:=ze (KP (c':=c') HWD.o HN.o HI.o fh hS);obtain⟨⟨y0,y1,y2,y3,y4,y5⟩,-⟩:=hq4.o6;obtain⟨⟨x0,x1,x2,x3,x4,x5,x6,x7,x8,x9,x10,x11,x12,x13,x14,x15,x16⟩,-⟩:=(HBX.o.but hS.but hwb (fun hx=>hx.elim (fun h=>(HWD.o.s3 wb h).1 rfl) HWD.o.s1)).o17;have HCR:=ze (HWD.o.cr.but hS.but (fun p hp hx=>hx.elim (HWD.o.s2 p hp).2.2 (HWD.o.s2 p hp).2.1));obtain⟨r0,f0⟩:=HCR.o.elem_cell zh HN.o HI.o (show 0<6 by omega) rfl;obtain⟨r1,f1⟩:=HCR.o.elem_cell zh HN.o HI.o (show 1<6 by omega) rfl;obtain⟨r2,f2⟩:=HCR.o.elem_cell zh HN.o HI.o (show 2<6 by omega) rfl;obtain⟨r3,f3⟩:=HCR.o.elem_cell zh HN.o HI.o (show 3<6 by omega) rfl;obtain⟨r4,f4⟩:=HCR.o.elem_cell zh HN.o HI.o (show 4<6 by omega) rfl;obtain⟨r5,f5⟩:=HCR.o.elem_cell zh HN.o HI.o (show 5<6 by omega) rfl;have r0:V4.cell? ⟨g,i*6,none⟩=some (O J c.pos):=r0;have f0:V4.frozen? ⟨g,i*6,none⟩=false:=f0;clear x0 x1 x2 x3 x4 x5 x6 x7 x8 x9 x10 x11 x12 x13 x15 x16 hq4 hS;go_region
 all_goals(
  go_wp2_with fail;go_ret;exact⟨gone,⟨c',A',n',k',l'⟩,S',trips',rfl,HF.o.below fh.drew,HS.o.hh.nw,HS.o.hh.nc,.inr (.inr (.inr ⟨HM.o,HL.o,D,D0,D1,HS.o.hh.L▸HREL.o⟩))⟩)
theorem GM(base:Nat)(s:Sc)(hs:s.ok)(sA:Option Addr)(sn sk wb h:Nat)(w:World)(S:HS)(g n ck:Nat)(tv:Value)(L:List Ca)(trips:List Tr)(T:Int)(i:Nat)(x:Ca)
  (H:Wd base s sA sn sk wb h w S (.slice (some ⟨g,0,none⟩) n ck) tv L trips T)(hn:L.length=n)(hnk:n<=ck)(hn1:n<=1000)(hi:L[i]?=some x)(hok:x.ok s.gap)(hm:0<=x.c.mode/\x.c.mode<=4)(hl:x.c.mode=2\/x.c.mode=3\/x.c.mode=4->1<=x.c.left/\x.c.left<=64)(hnw:S.nw<=1000000)(hid:∀ r∈x.l,0<=r.id/\r.id<trips.length)(hwid:∀ k,∀x∈S.L k,0<=x.id/\x.id<trips.length)(htl:trips.length<=10000000):
  Calls prog 143 #[.pointer (some ⟨wb,0,none⟩),O J (i:Int)] w (Uw base s sA sn sk wb h w S (.slice (some ⟨g,0,none⟩) n ck) tv L trips T i x):=by
 rcases(show x.c.mode=0\/x.c.mode=1\/(x.c.mode=2\/x.c.mode=3)\/x.c.mode=4 by omega)with h0|h0|h0|h0
 ·exact yI base s hs sA sn sk wb h w S g n ck tv L trips T i x H hn hnk hn1 hi hok (.inl h0)
 ·exact yI base s hs sA sn sk wb h w S g n ck tv L trips T i x H hn hnk hn1 hi hok (.inr h0)
 ·have h1:=hl (by omega);by_cases h2:x.c.left=1
  ·exact XC base s hs sA sn sk wb h w S g n ck tv L trips T i x H hn hnk hn1 hi hok h0 h2 hnw hid hwid htl
  ·exact XB base s hs sA sn sk wb h w S g n ck tv L trips T i x H hn hnk hn1 hi hok h0 (by omega) h1.2
 ·have h1:=hl (by omega);exact XA base s hs sA sn sk wb h w S g n ck tv L trips T i x H hn hnk hn1 hi hok h0 h1.1 h1.2
end
section
open List renaming setIfInBounds_toArray->s0q,set_cons_zero->s1q,set_cons_succ->s2q
open Go.RowKit HB Go.Maps CalP HeapP
theorem Car.info:(prog.info? 265).map (fun i=>(i.zero,i.size,i.bytes))=some (some (.agg #[O J 0,O J 0,O J 0,O J 0,.bool false,.slice none 0 0]),6,64):=by kernel_rfl
theorem uo(x:Ca):∀ u∈QW x,u.oneCell'=true:=by simp[Value.oneCell']
def HS0:HS:=⟨none,none,0,0,fun _=>none,fun _=>none,fun _=>[]⟩
theorem Hl.new{w:World}{h:Nat}(hb:Bx w h [.map none,.map none,O J 0]):Hl w h HS0:=by
 obtain⟨⟨c0,c1,c2⟩,f0,f1,f2⟩:=hb.o3;exact{c0:=c0,c1:=c1,c2:=⟨0,c2⟩,f0:=f0,f1:=f1,f2:=f2,m1:=.inl ⟨rfl,fun _=>rfl⟩,m2:=.inl ⟨rfl,fun _=>rfl⟩,ne1:=by simp[HS0],ne2:=by simp[HS0],ne3:=(fun b e=>by cases e),row:=(fun k s e=>by cases e),non:=fun _ _=>rfl,sep:=(fun k k' s s' b e=>by cases e),off:=(fun k s b e=>by cases e)}
theorem HS0.x{h k:Nat}(hx:Xh HS0 h k):k=h:=by
 rcases hx with hx|hx|hx|⟨key,s,hx,-⟩
 ·exact hx
 ·cases hx
 ·cases hx
 ·cases hx
def Yw(s:Sc)(x:Ca):Prop:=CarW s x.c x.l/\x.l=[]/\x.c.mode=0/\x.A=none/\x.n=0/\x.k=0
def dF(s:Sc)(sA:Option Addr)(sn sk:Nat)(w:World)(e:Ending)(w':World):Prop:=
 ∃(wb h:Nat)(cv:Value)(L:List Ca),e=.returned (.pointer (some ⟨wb,0,none⟩))/\Wd w.heap.size s sA sn sk wb h w' HS0 cv (.slice none 0 0) L [] 0/\(L.length:Int)=s.cars/\(∀x∈L,Yw s x)/\Below w.heap.size w w'
theorem bz(s:Sc)(hs:s.ok)(sA:Option Addr)(sn sk:Nat)(w:World):
  Calls prog 138 #[s.v sA sn sk] w (dF s sA sn sk w):=by
 obtain⟨f0,f1⟩:=hs.fl;obtain⟨g0,g1⟩:=hs.gap;obtain⟨c0,c1⟩:=hs.cars;obtain⟨n,hn⟩:∃ n:Nat,(n:Int)=s.cars:=⟨s.cars.toNat,by omega⟩;have HS:=ze hs;have HN:=ze hn;have hn0:(n:Int)<=16:=by omega
 clear hs;go_enter func138,ntmps138;go_upto_region 2 with(fail);have HB3:=ze (Bs.three w (s.ls sA sn sk) [.map none,.map none,O J 0] (d6 s sA sn sk (w.heap.size+1) (.slice none 0 0) (.slice none 0 0) 0) 25 306 213);refine kx (W:=((w.alloc (.cells #[O J s.fl,O J s.gap,O J s.cars,O J s.cap,O J s.opn,O J s.dw,O J s.cl,O J s.tr,.slice sA sn sk,O J s.disp,O J s.hor,O J s.bins,O J s.width] 25)).alloc (.cells #[.map none,.map none,O J 0] 306)).alloc (.cells #[O J s.fl,O J s.gap,O J s.cars,O J s.cap,O J s.opn,O J s.dw,O J s.cl,O J s.tr,.slice sA sn sk,O J s.disp,O J s.hor,O J s.bins,O J s.width,.pointer (some ⟨w.heap.size+1,0,none⟩),.slice none 0 0,.slice none 0 0,O J 0] 213)) (fun V=>Bx V w.heap.size (s.ls sA sn sk)/\Bx V (w.heap.size+1) [.map none,.map none,O J 0]/\Bx V (w.heap.size+1+1) (d6 s sA sn sk (w.heap.size+1) (.slice none 0 0) (.slice none 0 0) 0)/\Below w.heap.size w V/\V.heap.size=w.heap.size+3) ⟨HB3.o.cell (by simp),HB3.o.cell (by simp),HB3.o.cell (by simp),HB3.o.b,by simp⟩ ?_;clear HB3;rintro V ⟨hs0,hs1,hs2,hbV,hzV⟩;have HS0:=ze hs0;have HS1:=ze hs1;have HS2:=ze hs2;have HBV:=ze hbV;obtain⟨⟨q0,q1,q2,-,-,-,-,-,-,-,-,-,-⟩,-⟩:=hs0.o13;rw[<-hn]at q2;clear hs0 hs1 hs2 hbV hn;go_wp2_with fail
 go_loopw [12] (fun k wr=>∃(j:Nat)(A:Option Addr)(c:Nat)(L:List Ca),k=O J j/\j<=n/\L.length=j/\Bx wr (w.heap.size+1+1) (d6 s sA sn sk (w.heap.size+1) (.slice A j c) (.slice none 0 0) 0)/\HB.Own wr V.heap.size 265 6 QW (.slice A j c) L/\(∀x∈L,Yw s x)/\But (fun k=>k=(w.heap.size+1+1)) V wr) (fun k _=>n-(intOf k).toNat)
 case atStart=>exact⟨0,none,0,[],rfl,Nat.zero_le _,rfl,HS2.o,Own.nil _ _ _ _ _,(fun x hx=>by cases hx),But.refl _ V⟩
 case round=>
  obtain⟨j,A,c,L,rfl,hj,hLl,hx,hO,hF,hbut⟩:=hrel;have HXR:=ze hx;have HOR:=ze hO;have HLL:=ze hLl;have HF:=ze hF;have HBT:=ze hbut;have hzr:=hbut.size;have hwbr:w.heap.size+1+1<wr.heap.size:=by omega
  have hq0r:w.heap.size<wr.heap.size:=by omega
  have HS0r:=ze (HS0.o.but hbut (by omega) (by omega));have j0:(0:Int)<=(j:Int):=by omega
  clear q0 q1 q2 hx hO hLl hF hbut;by_cases hlt:j<n
  ·have j1:(j:Int)<(n:Int):=by omega
   obtain⟨⟨q0,q1,q2,-,-,-,-,-,-,-,-,-,-⟩,-⟩:=HS0r.o.o13;obtain⟨⟨-,-,-,-,-,-,-,-,-,-,-,-,-,-,d14,-,-⟩,-,-,-,-,-,-,-,-,-,-,-,-,-,-,g14,-,-⟩:=HXR.o.o17;have hjf0:0<=(j:Int)*s.fl:=Int.mul_nonneg j0 (by omega);have hjf1:(j:Int)*s.fl<=16*128:=Int.mul_le_mul (by omega) f1 (by omega) (by omega);obtain⟨hm,hhm⟩:∃ hm,hm=min (((j:Int)*s.fl+s.cars-1)/s.cars) (s.fl-1):=⟨_,rfl⟩;have hd0:0<=((j:Int)*s.fl+s.cars-1)/s.cars:=Int.ediv_nonneg (by omega) (by omega);have hm0:0<=hm:=by omega
   have hm1:hm<=127:=by omega
   obtain⟨pp,hpp⟩:∃ pp,pp=hm*s.gap:=⟨_,rfl⟩;have pp0:0<=pp:=by rw[hpp];exact Int.mul_nonneg hm0 (by omega)
   have pp1:pp<=127*s.gap:=by rw[hpp];exact Int.mul_le_mul_of_nonneg_right hm1 (by omega)
   have pp2:pp<=1000000:=by omega
   have HHM:=ze (fun W=>Ka s.fl s.cars (j:Int) ((j:Int)*s.fl) hm W (by omega) rfl hjf0 (by omega) (by omega) (by omega) hhm (by omega) (by omega));have HAT:=ze (fun W=>kP hm s.gap pp W hpp (by omega) (by omega));have HFR:=ze (show Yw s (⟨⟨pp,0,0,0,false⟩,none,0,0,[]⟩:Ca)from⟨⟨pp0,pp1,show(-1:Int)<=0 by decide,show(0:Int)<=1 by decide,show(0:Int)<=0 by decide,show(0:Int)<=4 by decide,fun h=>by simp at h,⟨show(0:Int)<=0 by decide,show(0:Int)<=64 by decide⟩,by have:=HS.o.cap;simp;omega⟩,rfl,rfl,rfl,rfl,rfl⟩);clear hjf0 hjf1 hhm hd0 hpp hm0 hm1;go_upto_region 5 with(fail);refine wp_region_held_drew (S:=(fun W=>W.cell? ⟨w.heap.size,0,none⟩=some (O J s.fl)/\W.cell? ⟨w.heap.size,1,none⟩=some (O J s.gap)/\W.cell? ⟨w.heap.size,2,none⟩=some (O J s.cars))) (by kernel_rfl) ?_ (fun hHeld=>?_)
   ·exact⟨q0,q1,q2⟩
   refine qK [0,1,2,3,5,6,7,8,9,11,12] (by simp[zl];rfl) (by kernel_rfl) (by assumption) ?_
   iterate 11 (refine qz (v:=?_) (fun _ _ _ h=>h) (by rfl) ?_ ?_;rotate_left;(next=>((intro w hSw;(try dsimp only at hSw);go_simp);(try with_reducible rfl)));try simp only[Act.put,s0q,s1q,s2q])
   refine qL ?_
   iterate 6
    all_goals first
     |(refine jj [4,10] (by decide+kernel) ?_;refine j6 (by simp[zl];rfl) rfl (fun K hK=>?_) (j6 (by simp[zl];rfl) rfl (fun K hK=>?_) AllReadyH.nil))
     |(refine jj [10] (by decide+kernel) ?_;refine j6 (by simp[zl];rfl) rfl (fun K hK=>?_) AllReadyH.nil)
     |(refine jj [4,13] (by decide+kernel) ?_;refine j6 (by simp[zl];rfl) rfl (fun K hK=>?_) (j6 (by simp[zl];rfl) rfl (fun K hK=>?_) AllReadyH.nil))
     |(refine jj [13] (by decide+kernel) ?_;refine j6 (by simp[zl];rfl) rfl (fun K hK=>?_) AllReadyH.nil)
     |(refine jj [4,15] (by decide+kernel) ?_;refine j6 (by simp[zl];rfl) rfl (fun K hK=>?_) (j6 (by simp[zl];rfl) rfl (fun K hK=>?_) AllReadyH.nil))
     |(refine jj [15] (by decide+kernel) ?_;refine j6 (by simp[zl];rfl) rfl (fun K hK=>?_) AllReadyH.nil)
     |(refine jj [4] (by decide+kernel) ?_;refine j6 (by simp[zl];rfl) rfl (fun K hK=>?_) AllReadyH.nil)
     |(refine jj [16] (by decide+kernel) ?_;refine j6 (by simp[zl];rfl) rfl (fun K hK=>?_) AllReadyH.nil)
     |(refine jj [19] (by decide+kernel) ?_;refine j6 (by simp[zl];rfl) rfl (fun K hK=>?_) AllReadyH.nil)
    all_goals first
     |(refine jn (P:=prog) rfl _ _ 211 rfl underlying211 Car.info rfl (by omega) (by omega) rfl (HOX.o.alloc _) (⟨⟨pp,0,0,0,false⟩,none,0,0,[]⟩:Ca) ⟨_,0,none⟩ 1 rfl rfl (zr _ _ (QW (⟨⟨pp,0,0,0,false⟩,none,0,0,[]⟩:Ca)) _ rfl) (uo _) (by have:=HLL.o;omega) (by simp;omega) ?_;intro v7 w7 k1 k2 k3;obtain⟨A7,n7,k7,rfl,hn7,hnk7⟩:=HB.Own.slice k1;have hn8:n7=j+1:=(by have:=HLL.o;simp at hn7;omega);clear hn7;subst hn8;have hA:=HBN.o.alloc hzN (.cells #[O J pp,O J 0,O J 0,O J 0,.bool false,.slice none 0 0] 265);have hvb:=fun k(hk:(Value.slice A j c).ownBlock=some k)=>(HOR.o.row.lt k hk);have HBT7:=ze (((HBT.o.then_ hA).grown k2 (fun p hp hl=>absurd (hvb p hp).1 (by omega))));have hx7:=((HXR.o.below hA hwbr).but (But.of_grown (X:=fun p=>(Value.slice A j c).ownBlock=some p) k2 (fun p hp=>hp)) (by have:=hA.size;omega) (fun hx=>by have:=(hvb _ hx).1;omega));have HX7:=ze hx7;have HS07:=ze ((HS0r.o.below hA hq0r).but (But.of_grown (X:=fun p=>(Value.slice A j c).ownBlock=some p) k2 (fun p hp=>hp)) (by have:=hA.size;omega) (fun hx=>by have:=(hvb _ hx).1;omega));have HO7:=ze k1;clear k1 k2 k3 hA hvb hx7;obtain⟨⟨-,-,-,-,-,-,-,-,-,-,-,-,-,-,d7,-,-⟩,-,-,-,-,-,-,-,-,-,-,-,-,-,-,g7,-,-⟩:=HX7.o.o17;refine hK.out _ _ ?_ (fun hHeld=>?_);(next=>exact⟨(HS07.o 0 _ rfl).1,(HS07.o 1 _ rfl).1,(HS07.o 2 _ rfl).1⟩);clear hK K;try simp only[Act.put,s0q,s1q,s2q])
     |(go_simp;first
      |(go_at_call 177;(with_reducible refine(HHM.o _).mono ?_);rintro r wX ⟨rfl,hbX⟩;have HBN:=ze (show Below wr.heap.size wr wX from(Below.refl wr.heap.size wr).drew.trans hbX);have hzN:=HBN.o.size;have dX:=ze (HXR.o.below HBN.o hwbr);have HS0x:=ze (HS0r.o.below HBN.o hq0r);have HOX:=ze (HOR.o.below HBN.o);clear hbX;obtain⟨⟨q0b,q1b,q2b,-,-,-,-,-,-,-,-,-,-⟩,-⟩:=HS0x.o.o13;obtain⟨⟨-,-,-,-,-,-,-,-,-,-,-,-,-,-,d14b,-,-⟩,-,-,-,-,-,-,-,-,-,-,-,-,-,-,g14b,-,-⟩:=dX.o.o17;have d14a:(wX.alloc (.cells #[O J pp,O J 0,O J 0,O J 0,.bool false,.slice none 0 0] 265)).cell? ⟨w.heap.size+1+1,14,none⟩=some (.slice A j c):=zf ((Below.refl wX.heap.size wX).alloc fi _) d14b;have n14:=World.new_ne wX _ d14b;refine hK.out _ _ ?_ (fun hHeld=>?_);(next=>exact⟨q0b,q1b,q2b⟩);clear hK K;try simp only[Act.put,s0q,s1q,s2q])
      |(go_at_call 176;(with_reducible refine(HAT.o _).mono ?_);rintro r wY ⟨rfl,e8⟩;have e9:=e8.symm;clear e8;subst e9;refine hK.out _ _ ?_ (fun hHeld=>?_);(next=>exact⟨q0b,q1b,q2b⟩);clear hK K;try simp only[Act.put,s0q,s1q,s2q])
      |(refine hK.out _ _ ?_ (fun hHeld=>?_);(next=>exact hHeld);clear hK K;try simp only[Act.put,s0q,s1q,s2q])
      |(refine hK.out _ _ ?_ (fun hHeld=>?_);(next=>exact⟨zf ((Below.refl wX.heap.size wX).alloc fi _) q0b,zf ((Below.refl wX.heap.size wX).alloc fi _) q1b,zf ((Below.refl wX.heap.size wX).alloc fi _) q2b⟩);clear hK K;try simp only[Act.put,s0q,s1q,s2q])
      |(refine hK.out _ _ ?_ (fun hHeld=>?_);(next=>exact⟨((HS07.o.setOther (a:=⟨w.heap.size+1+1,14,none⟩) (by simp;omega) _) 0 _ rfl).1,((HS07.o.setOther (a:=⟨w.heap.size+1+1,14,none⟩) (by simp;omega) _) 1 _ rfl).1,((HS07.o.setOther (a:=⟨w.heap.size+1+1,14,none⟩) (by simp;omega) _) 2 _ rfl).1⟩);clear hK K;try simp only[Act.put,s0q,s1q,s2q]))
    all_goals try(refine qK [14] (by simp[zl];rfl) (by decide+kernel) (by assumption) ?_;(iterate 1 (refine qz (v:=?_) (fun _ _ _ h=>h) (by rfl) ?_ ?_;rotate_left;(next=>((intro w hSw;(try dsimp only at hSw);go_simp);(try with_reducible rfl)));try simp only[Act.put,s0q,s1q,s2q]));refine qL ?_)
    all_goals try(refine qK [17,18] (by simp[zl];rfl) (by decide+kernel) (by assumption) ?_;(iterate 2 (refine qz (v:=?_) (fun _ _ _ h=>h) (by rfl) ?_ ?_;rotate_left;(next=>((intro w hSw;(try dsimp only at hSw);go_simp);(try with_reducible rfl)));try simp only[Act.put,s0q,s1q,s2q]));refine qL ?_)
   all_goals
     refine wpAnyH_done (by kernel_rfl) ?_ _;go_wp2_with fail;go_roundw
     case rel=>exact⟨j+1,A7,k7,L++[(⟨⟨pp,0,0,0,false⟩,none,0,0,[]⟩:Ca)],by go_num,by omega,by simp[HLL.o],HX7.o.set 14 (.slice A7 (j+1) k7),HO7.o.but ((But.refl (fun k=>k=w.heap.size+1+1) w7).at1 rfl 14 _) (fun k hk e=>by have:=(HO7.o.row.lt k hk).1;omega),(fun y hy=>by rcases List.mem_append.1 hy with h|h;exact HF.o y h;(obtain rfl:=List.mem_singleton.1 h;exact HFR.o)),HBT7.o.at1 rfl _ _⟩
     case measure=>simp[intOf];omega
  ·have j1:¬ ((j:Int)<(n:Int)):=by omega
   have hjn:j=n:=by omega
   have HJN:=ze hjn;clear hjn;go_wp2_with fail;go_ret;have hLl:=HLL.o;have hbw:Below w.heap.size w wr:=HBV.o.trans (HBT.o.below (fun k e=>by omega) (by have:=HBV.o.size;omega));have hh:=Hl.new (HS1.o.but HBT.o (by omega) (by omega));refine⟨w.heap.size+1+1,w.heap.size+1,.slice A j c,L,rfl,⟨HXR.o,by omega,hh,fun k hk=>by have:=Go.Proofs.YtdeogmbfgkepeaaGreatDoor.HS0.x hk;omega,HOR.o.small (by omega),fun z hz=>?_,Own.nil _ _ _ _ _,fun hx=>by have:=Go.Proofs.YtdeogmbfgkepeaaGreatDoor.HS0.x hx;omega,fun p hp=>?_,fun p hp=>(by cases hp),fun k hk=>?_⟩,by rw[hLl,HJN.o];exact HN.o,HF.o,hbw⟩
   ·obtain⟨-,h1,-,h3,h4,h5⟩:=HF.o z hz;rw[h1,h3,h4,h5];exact⟨⟨Rd.nil,rfl⟩,fi⟩
   ·have h1:=(HOR.o.row.lt p hp).1;exact⟨by omega,fun hx=>by have:=Go.Proofs.YtdeogmbfgkepeaaGreatDoor.HS0.x hx;omega,fun h=>(by cases h)⟩
   ·obtain⟨z,hz,off,e⟩:=hk;have h3:=(HF.o z hz).2.2.2.1;rw[h3]at e;cases e
end
section
open Go.RowKit HB Go.Maps CalP CumP TabP WhenP ArrP
theorem Hf(z:Sr):∀ u∈UN z,u.oneCell'=true:=by
 intro u hu;simp only[List.mem_cons,List.not_mem_nil,or_false]at hu;rcases hu with rfl|rfl<;>rfl
structure GnJ(s:Sc)(sA:Option Addr)(sn sk:Nat)(wA:Option Addr)(wn wc:Nat)(D g:Nat)(v:Value)(Z:List Sr)(w:World):Prop where
 bx:Bx w g (s.ls sA sn sk++[.slice wA wn wc,O J 0,v,O J 0,O J 0])
 own:Own w (g+1) 111 2 UN v Z
 lt:g<w.heap.size
 ok:∀(i:Nat)(z:Sr)(sg:Sg),Z[i]?=some z->s.segs[i]?=some sg->SOk w s.fl sg z
 len:Z.length<=s.segs.length
 nb:∀ z∈Z,∀k,z.blk k->k<w.heap.size/\k≠g/\v.ownBlock≠some k
 sb:Bx w D (s.ls sA sn sk)/\D<g
section
variable{s:Sc}{sA:Option Addr}{sn sk:Nat}{wA:Option Addr}{wn wc D g:Nat}{v:Value}{Z:List Sr}{w w':World}
theorem GnJ.below(H:GnJ s sA sn sk wA wn wc D g v Z w)(hb:Below w.heap.size w w'):GnJ s sA sn sk wA wn wc D g v Z w':=
 ⟨H.bx.below hb H.lt,H.own.below hb,Nat.lt_of_lt_of_le H.lt hb.size,fun i z sg hz hs=>(H.ok i z sg hz hs).but (X:=fun _=>False) (But.of_below hb) (fun _ _ h=>h),H.len,fun z hz k hk=>⟨Nat.lt_of_lt_of_le (H.nb z hz k hk).1 hb.size,(H.nb z hz k hk).2⟩,H.sb.1.below hb (Nat.lt_trans H.sb.2 H.lt),H.sb.2⟩
theorem GnJ.push(H:GnJ s sA sn sk wA wn wc D g v Z w){z:Sr}{sg:Sg}(hsg:s.segs[Z.length]?=some sg)(hz:SOk w s.fl sg z)(hb:∀ k,z.blk k->k≠g/\v.ownBlock≠some k){v':Value}(ho:Own w' (g+1) 111 2 UN v' (Z++[z]))(hg:w.grownBy w' v.ownBlock)(hv:v'.ownBlock=v.ownBlock\/v'.ownBlock=some w.heap.size):
  GnJ s sA sn sk wA wn wc D g v' (Z++[z]) (w'.setCell ⟨g,15,none⟩ v'):=by
 have hne:∀ k,v.ownBlock=some k->k≠g:=fun k e=>by have:=(H.own.row.lt k e).1;omega
 have hb1:But (fun k=>v.ownBlock=some k) w w':=But.of_grown hg (fun k e=>e);have hb2:But (fun k=>k=g\/v.ownBlock=some k) w (w'.setCell ⟨g,15,none⟩ v'):=(hb1.mono (fun k _ h=>.inr h)).set (a:=⟨g,15,none⟩) (.inl (.inl rfl)) _;have hbl:∀(y:Sr),(∀k,y.blk k->k≠g/\v.ownBlock≠some k)->∀ k,y.blk k->¬ (k=g\/v.ownBlock=some k):=fun y hy k hk h=>h.elim (hy k hk).1 (hy k hk).2
 have hz2:w.heap.size<=(w'.setCell ⟨g,15,none⟩ v').heap.size:=hb2.size;refine⟨?_,?_,Nat.lt_of_lt_of_le H.lt hz2,fun i y sg' hy hs=>?_,?_,fun y hy k hk=>?_,H.sb.1.but hb2 (Nat.lt_trans H.sb.2 H.lt) (fun h=>h.elim (fun e=>by have:=H.sb.2;omega) (fun e=>by have:=(H.own.row.lt D e).1;have:=H.sb.2;omega)),H.sb.2⟩
 ·have h1:=(H.bx.but hb1 H.lt (fun e=>hne g e rfl)).set 15 v';simpa using h1
 ·exact HB.Own.but ho (X:=fun k=>k=g) ((But.refl (fun k=>k=g) _).set (a:=⟨g,15,none⟩) (.inl rfl) _) (fun k e e2=>by have:=(ho.row.lt k e).1;omega)
 ·rw[List.getElem?_append]at hy;split at hy
  ·exact(H.ok i y sg' hy hs).but hb2 (hbl y fun k hk=>(H.nb y (List.mem_of_getElem? hy) k hk).2)
  ·rename_i hi;have:i-Z.length=0:=by
    rcases Nat.eq_zero_or_pos (i-Z.length)with h0|h0
    ·exact h0
    ·rw[List.getElem?_eq_none (by simp;omega)]at hy;cases hy
   rw[this]at hy;cases hy;have e:i=Z.length:=by omega
   rw[e,hsg]at hs;cases hs;exact hz.but hb2 (hbl _ hb)
 ·have:=(List.getElem?_eq_some_iff.1 hsg).1;simp;omega
 ·have key:k<w.heap.size/\k≠g/\v.ownBlock≠some k:=by
   rcases List.mem_append.1 hy with hy|hy
   ·exact H.nb y hy k hk
   ·rw[List.mem_singleton.1 hy]at hk;exact⟨hz.lt hk,hb k hk⟩
  refine⟨Nat.lt_of_lt_of_le key.1 hz2,key.2.1,fun e=>?_⟩;rcases hv with h|h
  ·exact key.2.2 (h▸e)
  ·rw[h]at e;injection e with e;omega
end
def dP(s:Sc)(sA:Option Addr)(sn sk:Nat)(wA:Option Addr)(wn wc:Nat)(ws:List Int)(w:World)(e:Ending)(w':World):Prop:=
 ∃g v Z,e=.returned (.tuple #[.pointer (some ⟨g,0,none⟩),O J 0])/\Gn s sA sn sk wA wn wc ws g v Z 0 0 0 w'/\Below w.heap.size w w'/\w.heap.size<=g
theorem Hg(s:Sc)(hs:s.ok)(hf:s.fl<=20)(sA:Option Addr)(sn sk:Nat)(wA:Option Addr)(wn wc:Nat)(ws:List Int)(w:World)(hg:Sgs w w.heap.size sA sn s.segs)(hw:HB.Rd w w.heap.size 1 wA wn (ws.map (Value.int .u32))/\ws.length=wn):
  Calls prog 25 #[s.v sA sn sk,.agg #[.slice wA wn wc,O J 0]] w (dP s sA sn sk wA wn wc ws w):=by
 have hfl:=hs.fl;have hln:=hs.len;have HV:=ze (fun W(hb:Below w.heap.size w W)=>J7 s hs sA sn sk w.heap.size W (hg.below hb) hb.size);have HG:=ze hg;have HWD:=ze hw;have hsn:s.segs.length=sn:=hg.2;have HBB:=ze (Bs.two w (s.ls sA sn sk) [.slice wA wn wc,O J 0] 25 32);clear hg hw;go_enter func25,ntmps25;go_upto_region 4 with(go_at_call 47;(with_reducible refine(HV.o _ (by go_grown)).mono ?_);rintro r w1 ⟨rfl,hb1⟩;have HB1:=ze (HBB.o.step hb1);clear hb1);obtain⟨⟨a0,a1,a2,a3,a4,a5,a6,a7,a8,a9,a10,a11,a12⟩,-⟩:=(HB1.o.cell (q:=w.heap.size) (l:=s.ls sA sn sk) (by simp)).o13;obtain⟨⟨b0,b1⟩,-⟩:=(HB1.o.cell (q:=w.heap.size+1) (l:=[.slice wA wn wc,O J 0]) (by simp)).o2;have hzD:=HB1.o.lt (q:=w.heap.size) (l:=s.ls sA sn sk) (by simp);have HJ0:=ze (show GnJ s sA sn sk wA wn wc w.heap.size w1.heap.size (.slice none 0 0) [] (w1.alloc (.cells (s.ls sA sn sk++[Value.slice wA wn wc,O J 0,.slice none 0 0,O J 0,O J 0]).toArray 78))from
  ⟨Bx.new w1 _ _,Own.nil _ _ _ _ _,by simp,fun i z sg h=>by simp at h,by simp,fun z h=>by simp at h,(HB1.o.cell (q:=w.heap.size) (l:=s.ls sA sn sk) (by simp)).alloc (by simp) _,hzD⟩)
 have HBW:=ze (HB1.o.b.alloc HB1.o.b.size (.cells (s.ls sA sn sk++[Value.slice wA wn wc,O J 0,.slice none 0 0,O J 0,O J 0]).toArray 78));have hzg:w.heap.size<=w1.heap.size:=HB1.o.b.size;clear HV HBB;go_upto_region 5 with(fail);refine zq (w:=w) (fun V=>GnJ s sA sn sk wA wn wc w.heap.size w1.heap.size (.slice none 0 0) [] V) HJ0.o HBW.o ?_;clear HJ0 HBW HB1 a0 a1 a2 a3 a4 a5 a6 a7 a8 a9 a10 a11 a12 b0 b1;generalize w1.heap.size=g at*;rintro V hj hbV;have HJ:=ze hj;have HBV:=ze hbV;have a8:=(hj.sb.1 8 _ rfl).1;clear hj hbV;go_wp2_with fail;clear a8
 go_loopw [26] (fun c wr=>∃(j:Nat)(v:Value)(Z:List Sr),c=O J j/\j<=sn/\Z.length=j/\GnJ s sA sn sk wA wn wc w.heap.size g v Z wr/\Below w.heap.size w wr) (fun c _=>sn-(intOf c).toNat)
 case atStart=>exact⟨0,_,[],rfl,Nat.zero_le _,rfl,HJ.o,HBV.o⟩
 case round=>
  obtain⟨j,v,Z,rfl,hj,hZ,hJ,hb⟩:=hrel;have HJ1:=ze hJ;have HB:=ze hb;have hz:=hb.size;by_cases hlt:j<sn
  ·obtain⟨sb,so,sg,rfl,hsb,hgs,k0,k1,k2⟩:=(HG.o.below hb).at_ hlt;have hsg:=hs.segs sg (List.mem_of_getElem? hgs);have HGS:=ze hgs;have i0:(0:Int)<=(j:Int):=by omega
   have i1:(j:Int)<(sn:Int):=by omega
   have a0:=(hJ.sb.1 0 _ rfl).1;have hDz:=hJ.sb.2;have hgz:=hJ.lt;have hsz:sb<wr.heap.size:=by omega
   have hDr:w.heap.size<wr.heap.size:=by omega
   clear hgs hJ hb HJ HBV;have HCT:=ze (fun W=>US sg.r hsg.r.1 hsg.r.2 W);have HDG:=ze (fun W=>KZ sg.k s.fl.toNat hsg.k (by omega) (by omega) W);rw[show((s.fl.toNat:Nat):Int)=s.fl by omega]at HDG;go_upto_region 9 with(go_at_call 48;(with_reducible refine(HCT.o _).mono ?_);rintro r w2 ⟨tv,m,rfl,hm,ho2,hb2⟩;have HM:=ze hm;have HO2:=ze ho2;have HB2:=ze hb2;clear hm ho2 hb2);have f0:w2.cell? ⟨wr.heap.size,0,none⟩=some (O J sg.k):=zf HB2.o (by simp);have HB02:=ze (((Below.refl wr.heap.size wr).alloc fi (.cells #[O J sg.k,O J sg.t,O J sg.r] 68)).trans (HB2.o.mono (by simp)));have f1:w2.cell? ⟨w.heap.size,0,none⟩=some (O J s.fl):=zf HB02.o a0;have hz2:wr.heap.size<w2.heap.size:=by have:=HB2.o.size;simp at this;omega
   have hDw2:w.heap.size<w2.heap.size:=by omega
   go_upto_region 10 with(go_at_call 49;(with_reducible refine(HDG.o _).mono ?_);rintro r w3 ⟨x,rfl,hx,hgr⟩;have HX:=ze hx;have HGR:=ze hgr;clear hx hgr);obtain⟨⟨mm,gn,hgd,hgn,hmm⟩,hb3⟩:=HGR.o;obtain⟨tA,tc,rfl,-,htr⟩:=HO2.o.shape;have hto:=HO2.o.row.lt;rw[vr]at htr hto⊢;rw[zt]at htr;have hz3:w2.heap.size<=w3.heap.size:=hb3.size;have HB03:=ze (HB02.o.trans (hb3.mono (by omega)));have HJ3:=ze (HJ1.o.below HB03.o);have HSK:=ze (show SOk w3 s.fl sg ⟨tA,m,tc,x,mm,gn⟩from⟨HM.o,(htr.below hb3).mono hz3,hgd,hgn⟩);have HBK:=ze (show∀k,(⟨tA,m,tc,x,mm,gn⟩:Sr).blk k->k≠g/\v.ownBlock≠some k from fun k hk=>by
    have hk0:wr.heap.size<=k:=by
     rcases hk with⟨off,e⟩|e|e
     ·have e2:tA=some ⟨k,off,none⟩:=e;subst e2;have:=(hto k rfl).1;simp at this;omega
     ·have e2:k=x:=e;have:=HX.o;omega
     ·have:=hmm k e;omega
    exact⟨by omega,fun e=>by have:=(HJ1.o.own.row.lt k e).2;omega⟩)
   have hgW3:g<w3.heap.size:=HJ3.o.lt;have hZn:Z.length<=1000000000:=by omega
   have c15:=(HJ3.o.bx 15 _ rfl).1;have f15:=(HJ3.o.bx 15 _ rfl).2;have hvg:v.ownBlock≠some g:=fun e=>by have:=(HJ3.o.own.row.lt g e).1;omega
   clear hgd hb3 htr hto hmm HO2 HX HGR HJ1 f0 f1 k0 k1 k2 a0 HB2 HB02 HM;go_wp2_with(at_builtin;refine kG (P:=prog) rfl _ _ 76 rfl underlying76 Sr.info rfl (by omega) (by omega) rfl (HJ3.o.own.alloc _) (⟨tA,m,tc,x,mm,gn⟩:Sr) ⟨_,0,none⟩ 1 rfl rfl (zr _ _ (UN ⟨tA,m,tc,x,mm,gn⟩) _ rfl) (Hf _) hZn (by simp;omega) ?_;intro v' w8 k1 k2 k3;obtain⟨vA,vL,vc,rfl⟩:∃ vA vL vc,v'=.slice vA vL vc:=(let⟨A,c,e,_⟩:=k1.shape;⟨A,_,c,e⟩);have K1:=ze k1;have K2:=ze k2;have K3:=ze k3;have d15:w8.cell? ⟨g,15,none⟩=some v:=((World.cell?_of_block (a:=⟨g,15,none⟩) (k2.block g (by simp;omega) (fun e=>hvg e.symm))).trans (zf ((Below.refl w3.heap.size w3).alloc fi _) c15));have e15:w8.frozen? ⟨g,15,none⟩=false:=((World.frozen?_of_block (a:=⟨g,15,none⟩) (k2.block g (by simp;omega) (fun e=>hvg e.symm))).trans (((Below.refl w3.heap.size w3).alloc fi _).frozen (p:=⟨g,15,none⟩) hgW3 |>.trans f15));clear k1 k2 k3);go_roundw
   case rel=>
    have hJ8:=(HJ3.o.below ((Below.refl _ w3).alloc fi _)).push (by rw[hZ];exact HGS.o) (HSK.o.but (X:=fun _=>False) (But.of_below ((Below.refl _ w3).alloc fi _)) (fun _ _ h=>h)) HBK.o K1.o K2.o K3.o;exact⟨j+1,_,_,by go_num,by omega,by simp[hZ],hJ8,(((HB.o.trans (HB03.o.mono hz)).alloc (show w.heap.size<=w3.heap.size by have:=HB03.o.size;omega) _).grown K2.o (by simp;have:=HB03.o.size;omega) (fun k hk=>by have:=(HJ3.o.own.row.lt k hk).1;omega)).setCell (p:=⟨g,15,none⟩) (by show w.heap.size<=g;omega) _⟩
   case measure=>simp[intOf];omega
  ·obtain rfl:j=sn:=by omega
   have HF:=ze (show Gn s sA j sk wA wn wc ws g v Z 0 0 0 wr from⟨hJ.bx,hJ.own,hJ.lt,hJ.ok,by omega,fun z hz k hk=>(hJ.nb z hz k hk).2,(HG.o.below hb).mono hzg,(HWD.o.1.below hb).mono hzg,HWD.o.2⟩);clear hJ hb HJ HBV HJ1;go_wp2_with fail;go_ret2;exact⟨g,v,Z,rfl,HF.o,HB.o,hzg⟩
end
end Go.Proofs.YtdeogmbfgkepeaaGreatDoor
