/- Contracts for WholeDelivers. -/
import Derived.IntWalk
import Derived.Test.YtdeogmbfgkepeaaGreatDoorR43
set_option linter.unusedVariables false
set_option linter.unusedSimpArgs false
set_option maxRecDepth 100000
set_option maxHeartbeats 64000000
namespace Go.Proofs.YtdeogmbfgkepeaaGreatDoor
open Go.Proofs.Tryz
section
open Go.RowKit HB Go.Maps CalP HeapP
theorem un(e:En):∀ l:List En,Zo l->∃ l',Zo l'/\l'.Perm (e::l)
 |[],_=>⟨[e],List.pairwise_singleton _ _,iV _⟩
 |x::l,h=>by
  have hx:=QK.1 h;rcases Wu e x with h1|h1
  ·exact⟨e::x::l,QK.2 ⟨fun y hy=>(qx.1 hy).elim (fun e=>e▸h1) (fun hy=>le_trans h1 (hx.1 y hy)),h⟩,iV _⟩
  ·obtain⟨l',h2,h3⟩:=un e l hx.2;exact⟨x::l',QK.2 ⟨fun y hy=>(qx.1 (h3.mem_iff.1 hy)).elim (fun e=>e▸h1) (hx.1 y),h2⟩,(List.Perm.cons x h3).trans (List.Perm.swap e x l)⟩
def dA(base:Nat)(s:Sc)(sA:iX)(sn sk x:Nat)(E:Egs)(w:l6)(i:Nat)(a:Int)(c:Ca)(e:Ending)(w':l6):Prop:=
 e=.returned (.tuple #[])/\Below base w w'/\∃(g':Nat)(m':Option Nat)(n':Nat)(HL' l':List En)(t':Nat->Nat),Eg base s sA sn sk x {E with g:=g',m:=m',nm:=n',HL:=HL',l:=l',tag:=t'} w'/\HL'.length<=E.HL.length+1/\n'<=E.nm+1/\
  ((∃N,NextP s.gap c.c N/\NextX s (fC s i c.l E.S) c.c N/\l'.Perm (⟨a+N-1,1,i⟩::wo E.l 1 i))\/(c.c.mode=0/\(∀n:Nat,n<128->¬ (fC s i c.l E.S).W n)/\l'=wo E.l 1 i))
def GD(s:Sc)(V:Vw)(c:Cr)(u v:Value):Prop:=(∃N:Int,u=.int .i64 N/\v=.bool true/\NextP s.gap c N/\NextX s V c N)\/(u=.int .i64 0/\v=.bool false/\c.mode=0/\∀ n:Nat,n<128->¬ V.W n)
theorem NextR.split{s:Sc}{V:Vw}{c:Cr}{r:Ending}(h:NextR s V c r)(m0:0<=c.mode)(m1:c.mode<=4):∃ u v,r=.returned (.tuple #[u,v])/\GD s V c u v:=by
 rcases h with⟨N,rfl,h⟩|⟨rfl,h,h2⟩
 ·exact⟨_,_,rfl,.inl ⟨N,rfl,rfl,h⟩⟩
 ·exact⟨_,_,rfl,.inr ⟨rfl,rfl,by omega,h2⟩⟩
theorem GE(base:Nat)(s:Sc)(sA:iX)(sn sk x:Nat)(E:Egs)(w:l6)(i:Nat)(a:Int)(c:Ca)(H:Eg base s sA sn sk x E w)(hi:E.L[i]?=some c)(ha:E.at_[i]?=some a)(hw:CarW s c.c c.l)(hs:s.ok)(a0:0<=a)(a1:a<=1000000)(hb0:E.HL.length<=1500000)(hb1:E.nm<=1500000)(hn:E.L.length<=1000):
  Calls prog 218 #[.pointer (some ⟨x,0,none⟩),.int .i64 (i:Int)] w (dA base s sA sn sk x E w i a c):=by
 have hB:i<E.at_.length:=(qd.1 ha).1;have hR:i<E.L.length:=(qd.1 hi).1;obtain⟨wb,h,S,cv,tv,L,trips,T,F,g,m,nm,HL,l,pA,pn,pc,P,ab,at_,yb,yn,yc,Y,G,evn,tag⟩:=E;obtain⟨gc,ck,hA,-,-,hQ,-,-⟩:=H.wd.cr.at_ (by omega);dsimp only at hi ha hB hR hA hQ hb0 hb1 hn;subst hA;obtain⟨⟨x0,-,-,-,-⟩,-,-⟩:=H.cells;obtain⟨⟨w0,w1,w2,w3,w4,w5,w6,w7,w8,w9,w10,w11,w12,w13,w14,-,-⟩,-⟩:=H.wd.bx.o17;dsimp only at x0 w0 w1 w2 w3 w4 w5 w6 w7 w8 w9 w10 w11 w12 w13 w14;have HH:=ze H;have HI:=ze hi;have HA:=ze ha;have HW:=ze hw;have HS:=ze hs;have i0:(0:Int)<=(i:Int):=by omega
 have i1:(i:Int)<(at_.length:Int):=by omega
 have i2:(i:Int)<(L.length:Int):=by omega
 have he:=ze H.wd.cr;obtain⟨r0,-⟩:=he.o.elem_cell zh rfl hi (show 0<6 by omega) rfl;obtain⟨r1,-⟩:=he.o.elem_cell zh rfl hi (show 1<6 by omega) rfl;obtain⟨r2,-⟩:=he.o.elem_cell zh rfl hi (show 2<6 by omega) rfl;obtain⟨r3,-⟩:=he.o.elem_cell zh rfl hi (show 3<6 by omega) rfl;obtain⟨r4,-⟩:=he.o.elem_cell zh rfl hi (show 4<6 by omega) rfl;obtain⟨r5,-⟩:=he.o.elem_cell zh rfl hi (show 5<6 by omega) rfl;have r0:w.cell? ⟨gc,i*6,none⟩=some (.int .i64 c.c.pos):=r0;have hk:=(H.wd.ri c (jx hi)).1;have hr:=hs.cap;have hz:=hw.cp;obtain⟨c,A,rn,rk,rl⟩:=c;dsimp only at r0 r1 r2 r3 r4 r5 hk hz;have hS:rn<=1000000:=by have:=hk.2;omega
 have hO:=ze hk;have hm:=ze (fun d(hd:d=1\/d=-1) W(hb:Below w.heap.size w W)=>qv h S (i:Int) d W (HH.o.wd.hl.below hb) hd (zQ (by omega) (by omega)));have hf:=ze (fun m0 m1 u0 u1(hx:SetOf m0 m1 (Ld S.fc S.fw (i:Int) 1))(hy:SetOf u0 u1 (Ld S.fc S.fw (i:Int) (-1))) W(hb:Below w.heap.size w W)=>Xs s hs sA sn sk c A rn rk w.heap.size rl m0 m1 u0 u1 W (hO.o.below hb) hb.size hS hw.p0 hw.p1 hw.d0 hw.d1 hw.lf (P:=Ld S.fc S.fw (i:Int)) hx hy);clear H hi ha hw hs hk hr hz
 go_in
 go_upto_region 0 with(fail)
 go_cut [4,5] (fun u v wx=>GD s (fC s i rl S) c u v/\Below w.heap.size w wx)
 case first=>
  have MK:=ze (fun W(hb:Below w.heap.size w W)=>(show W.cell? ⟨x,0,none⟩=some (.pointer (some ⟨wb,0,none⟩))/\s.K sA sn sk W wb/\W.cell? ⟨wb,13,none⟩=some (.pointer (some ⟨h,0,none⟩))/\W.cell? ⟨wb,14,none⟩=some (.slice (some ⟨gc,0,none⟩) L.length ck)/\W.cell? ⟨gc,i*6,none⟩=some (.int .i64 c.pos)/\W.cell? ⟨gc,i*6+1,none⟩=some (.int .i64 c.dir)/\W.cell? ⟨gc,i*6+2,none⟩=some (.int .i64 c.mode)/\W.cell? ⟨gc,i*6+3,none⟩=some (.int .i64 c.left)/\W.cell? ⟨gc,i*6+4,none⟩=some (.bool c.wt)/\W.cell? ⟨gc,i*6+5,none⟩=some (.slice A rn rk)/\Below w.heap.size w W from⟨zf hb x0,⟨zf hb w0,zf hb w1,zf hb w2,zf hb w3,zf hb w4,zf hb w5,zf hb w6,zf hb w7,zf hb w8,zf hb w9,zf hb w10,zf hb w11,zf hb w12⟩,zf hb w13,zf hb w14,zf hb r0,zf hb r1,zf hb r2,zf hb r3,zf hb r4,zf hb r5,hb⟩))
  go_region_held3 (fun W=>W.cell? ⟨x,0,none⟩=some (.pointer (some ⟨wb,0,none⟩))/\s.K sA sn sk W wb/\W.cell? ⟨wb,13,none⟩=some (.pointer (some ⟨h,0,none⟩))/\W.cell? ⟨wb,14,none⟩=some (.slice (some ⟨gc,0,none⟩) L.length ck)/\W.cell? ⟨gc,i*6,none⟩=some (.int .i64 c.pos)/\W.cell? ⟨gc,i*6+1,none⟩=some (.int .i64 c.dir)/\W.cell? ⟨gc,i*6+2,none⟩=some (.int .i64 c.mode)/\W.cell? ⟨gc,i*6+3,none⟩=some (.int .i64 c.left)/\W.cell? ⟨gc,i*6+4,none⟩=some (.bool c.wt)/\W.cell? ⟨gc,i*6+5,none⟩=some (.slice A rn rk)/\Below w.heap.size w W)
   (((refine MK.o _ ?_);(first|(with_reducible exact h9.o)|(with_reducible exact fh.drew)|(go_grown;done)|(go_grown;with_reducible exact h9.o))))
   (first
  |(go_at_call 192;go_split_ands;(with_reducible refine(hm.o 1 (.inl rfl) _ (by assumption)).mono ?_);rintro r wA ⟨⟨m0,m1,rfl,hE⟩,hc⟩;have ho:=ze hE;clear hE;have h0:=ze ((‹Below w.heap.size w _›).trans (hc.mono (‹Below w.heap.size w _›).size));(try clear h9);have h9:=ze h0.o;clear h0 hc)
  |(go_at_call 192;go_split_ands;(with_reducible refine(hm.o (-1) (.inr rfl) _ (by assumption)).mono ?_);rintro r wB ⟨⟨u0,u1,rfl,hI⟩,hc⟩;have hq:=ze hI;clear hI;have h0:=ze ((‹Below w.heap.size w _›).trans (hc.mono (‹Below w.heap.size w _›).size));(try clear h9);have h9:=ze h0.o;clear h0 hc)
  |(go_at_call 245;go_split_ands;(with_reducible refine(hf.o m0 m1 u0 u1 ho.o hq.o _ (by assumption)).mono ?_);rintro r wC ⟨hj,hc⟩;obtain⟨nu,nv,rfl,hF⟩:=NextR.split hj HW.o.m0 HW.o.m1;have hL:=ze hF;clear hj hF;have h0:=ze ((‹Below w.heap.size w _›).trans (hc.mono (‹Below w.heap.size w _›).size));(try clear h9);have h9:=ze h0.o;clear h0 hc))
  all_goals(
   go_wp2_with fail
   go_meet
   exact⟨hL.o,h9.o⟩)
 case rest=>
 obtain⟨hj,hg⟩:=hcut;obtain⟨V,hV⟩:∃ V,V=wc:=⟨_,rfl⟩;subst hV;have HB:=ze hg;have HE:=ze (HH.o.below hg);have hv:=HH.o.bs;have hT:=hg.size;clear hg x0 w0 w1 w2 w3 w4 w5 w6 w7 w8 w9 w10 w11 w12 w13 w14 r0 r1 r2 r3 r4 r5 he hm hf;obtain⟨⟨-,-,x4,-,-⟩,-,-⟩:=HE.o.cells;obtain⟨a',hu,ac,-⟩:=HE.o.ao.int_at rfl hB;obtain rfl:a'=a:=ve (hu.symm.trans HA.o);dsimp only at x4 ac;clear hu;rcases hj with⟨N,rfl,rfl,hN,ht⟩|⟨rfl,rfl,hD,hG⟩
 ·have n0:=hN.n0;have n1:=hN.n1;have HN:=ze hN;have hf:=ze (show NextX s (fC s i rl S) c N from ht);clear hN ht;have hp:=ze (fun W(hb:Below V.heap.size V W)=>Qr (F:=F) x g nm HL.length m HL l ⟨a'+N-1,1,(i:Int)⟩ W (HE.o.cs.below hb) rfl (by omega) (by omega) ⟨zQ (by show _<=a'+N-1;omega) (by show a'+N-1<=_;omega),zQ (show(-1000000000:Int)<=1 by decide) (show(1:Int)<=1000000000 by decide),zQ (by show _<=(i:Int);omega) (by show(i:Int)<=_;omega)⟩);go_upto_region 3 with(fail);have e1:IntKind.i64.wrap (a'+N)=a'+N:=ae _ (by omega);have e2:IntKind.i64.wrap (a'+N-1)=a'+N-1:=ae _ (by omega)
  go_region_with (go_at_call 139;(with_reducible refine(hp.o _ fh.drew).mono ?_);rintro r w5 ⟨rfl,hP⟩;have HP:=ze hP;clear hP x4 ac e1 e2)
  all_goals(
   go_wp2_with fail;go_end0;obtain⟨g',b',n',L',h1,h2,h3,h4,h5⟩:=HP.o;obtain⟨l',h6,h7⟩:=un ⟨a'+N-1,1,(i:Int)⟩ (wo l 1 i) (JK HE.o.cs.ch.srt 1 i);have h8:=(HE.o.below fh.drew).cal (h1 l' h6 h7) h4 h5;exact⟨rfl,(HB.o.mono hv).trans (fh.drew.trans h8.2),g',some b',n',L',l',_,h8.1,h2,h3,.inl ⟨N,HN.o,hf.o,h7⟩⟩)
 ·have HM:=ze hD;have hM:=ze hG;clear hD hG;have hJ:=ze (fun W(hb:Below V.heap.size V W)=>WE (F:=F) x g nm m HL l 1 (i:Int) W (HE.o.cs.below hb) (zQ (show(-1000000000:Int)<=1 by decide) (show(1:Int)<=1000000000 by decide)) (zQ (by omega) (by omega)));go_wp2_with(go_at_call 246;(with_reducible refine(hJ.o _ fh).mono ?_);rintro r w5 ⟨⟨z,ok,rfl,-⟩,hC,hP⟩;have HP:=ze hP;have HC:=ze hC;clear hP hC x4 ac);go_end0;have h8:=HE.o.cal HC.o HP.o (fun k _ h=>h);exact⟨rfl,(HB.o.mono hv).trans h8.2,g,m,nm,HL,wo l 1 i,_,h8.1,Ut _,Ut _,.inr ⟨HM.o,hM.o,rfl⟩⟩
end
end Go.Proofs.YtdeogmbfgkepeaaGreatDoor
