/- Contracts that WholeBins needs. Each tells its conditions. -/
import Derived.IntWalk
import Derived.Test.YtdeogmbfgkepeaaGreatDoorQ43
set_option linter.unusedVariables false
set_option linter.unusedSimpArgs false
set_option maxRecDepth 100000
set_option maxHeartbeats 64000000
namespace Go.Proofs.YtdeogmbfgkepeaaGreatDoor
open Go.Proofs.Tryz
open Go.Value renaming int->O
open Go.IntKind renaming i64->J
section
open Go.RowKit HB Go.Maps CalP HeapP
theorem un(e:En):∀ l:List En,Zo l->∃ l',Zo l'/\l'.Perm (e::l)
 |[],_=>⟨[e],List.pairwise_singleton _ _,List.Perm.refl _⟩
 |x::l,h=>by
  have hx:=List.pairwise_cons.1 h;rcases Wu e x with h1|h1
  ·exact⟨e::x::l,List.pairwise_cons.2 ⟨fun y hy=>(List.mem_cons.1 hy).elim (fun e=>e▸h1) (fun hy=>le_trans h1 (hx.1 y hy)),h⟩,List.Perm.refl _⟩
  ·obtain⟨l',h2,h3⟩:=un e l hx.2;exact⟨x::l',List.pairwise_cons.2 ⟨fun y hy=>(List.mem_cons.1 (h3.mem_iff.1 hy)).elim (fun e=>e▸h1) (hx.1 y),h2⟩,(List.Perm.cons x h3).trans (List.Perm.swap e x l)⟩
def dA(base:Nat)(s:Sc)(sA:Option Addr)(sn sk x:Nat)(E:Egs)(w:World)(i:Nat)(a:Int)(c:Ca)(e:Ending)(w':World):Prop:=
 e=.returned (.tuple #[])/\Below base w w'/\∃(g':Nat)(m':Option Nat)(n':Nat)(HL' l':List En)(t':Nat->Nat),Eg base s sA sn sk x {E with g:=g',m:=m',nm:=n',HL:=HL',l:=l',tag:=t'} w'/\HL'.length<=E.HL.length+1/\n'<=E.nm+1/\
  ((∃N,NextP s.gap c.c N/\l'.Perm (⟨a+N-1,1,i⟩::wo E.l 1 i))\/(c.c.mode=0/\l'=wo E.l 1 i))
def GD(g:Int)(c:Cr)(u v:Value):Prop:=(∃N:Int,u=O J N/\v=.bool true/\NextP g c N)\/(u=O J 0/\v=.bool false/\c.mode=0)
theorem NextR.split{g:Int}{c:Cr}{r:Ending}(h:NextR g c r)(m0:0<=c.mode)(m1:c.mode<=4):∃ u v,r=.returned (.tuple #[u,v])/\GD g c u v:=by
 rcases h with⟨N,rfl,h⟩|⟨rfl,h⟩
 ·exact⟨_,_,rfl,.inl ⟨N,rfl,rfl,h⟩⟩
 ·exact⟨_,_,rfl,.inr ⟨rfl,rfl,by omega⟩⟩
theorem GE(base:Nat)(s:Sc)(sA:Option Addr)(sn sk x:Nat)(E:Egs)(w:World)(i:Nat)(a:Int)(c:Ca)(H:Eg base s sA sn sk x E w)(hi:E.L[i]?=some c)(ha:E.at_[i]?=some a)(hw:CarW s c.c c.l)(hs:s.ok)(a0:0<=a)(a1:a<=1000000)(hb0:E.HL.length<=99000)(hb1:E.nm<=99000)(hn:E.L.length<=1000):
  Calls prog 218 #[.pointer (some ⟨x,0,none⟩),O J (i:Int)] w (dA base s sA sn sk x E w i a c):=by
 have hia:i<E.at_.length:=(List.getElem?_eq_some_iff.1 ha).1;have hil:i<E.L.length:=(List.getElem?_eq_some_iff.1 hi).1;obtain⟨wb,h,S,cv,tv,L,trips,T,F,g,m,nm,HL,l,pA,pn,pc,P,ab,at_,yb,yn,yc,Y,G,evn,tag⟩:=E;obtain⟨gc,ck,hcv,-,-,hck,-,-⟩:=H.wd.cr.at_ (by omega);dsimp only at hi ha hia hil hcv hck hb0 hb1 hn;subst hcv;obtain⟨⟨x0,-,-,-,-⟩,-,-⟩:=H.cells;obtain⟨⟨w0,w1,w2,w3,w4,w5,w6,w7,w8,w9,w10,w11,w12,w13,w14,-,-⟩,-⟩:=H.wd.bx.o17;dsimp only at x0 w0 w1 w2 w3 w4 w5 w6 w7 w8 w9 w10 w11 w12 w13 w14;have HH:=ze H;have HI:=ze hi;have HA:=ze ha;have HW:=ze hw;have HS:=ze hs;have i0:(0:Int)<=(i:Int):=by omega
 have i1:(i:Int)<(at_.length:Int):=by omega
 have i2:(i:Int)<(L.length:Int):=by omega
 have HCR:=ze H.wd.cr;obtain⟨r0,-⟩:=HCR.o.elem_cell zh rfl hi (show 0<6 by omega) rfl;obtain⟨r1,-⟩:=HCR.o.elem_cell zh rfl hi (show 1<6 by omega) rfl;obtain⟨r2,-⟩:=HCR.o.elem_cell zh rfl hi (show 2<6 by omega) rfl;obtain⟨r3,-⟩:=HCR.o.elem_cell zh rfl hi (show 3<6 by omega) rfl;obtain⟨r4,-⟩:=HCR.o.elem_cell zh rfl hi (show 4<6 by omega) rfl;obtain⟨r5,-⟩:=HCR.o.elem_cell zh rfl hi (show 5<6 by omega) rfl;have r0:w.cell? ⟨gc,i*6,none⟩=some (O J c.c.pos):=r0;have hri:=(H.wd.ri c (List.mem_of_getElem? hi)).1;have hcap:=hs.cap;have hcp:=hw.cp;obtain⟨c,A,rn,rk,rl⟩:=c;dsimp only at r0 r1 r2 r3 r4 r5 hri hcp;have hrn:rn<=1000000:=by have:=hri.2;omega
 have HRI:=ze hri;have HLD:=ze (fun d W(hb:Below w.heap.size w W)=>qv h S (i:Int) d W (HH.o.wd.hl.below hb));have HNX:=ze (fun m0 m1 u0 u1 W(hb:Below w.heap.size w W)=>Xs s hs sA sn sk c A rn rk w.heap.size rl m0 m1 u0 u1 W (HRI.o.below hb) hb.size hrn hw.p0 hw.p1 hw.d0 hw.d1 hw.lf);clear H hi ha hw hs hri hcap hcp;go_enter func218,ntmps218;go_upto_region 0 with(fail)
 go_cut [4,5] (fun u v wx=>GD s.gap c u v/\Below w.heap.size w wx)
 case first=>
  have MK:=ze (fun W(hb:Below w.heap.size w W)=>(show W.cell? ⟨x,0,none⟩=some (.pointer (some ⟨wb,0,none⟩))/\s.K sA sn sk W wb/\W.cell? ⟨wb,13,none⟩=some (.pointer (some ⟨h,0,none⟩))/\W.cell? ⟨wb,14,none⟩=some (.slice (some ⟨gc,0,none⟩) L.length ck)/\W.cell? ⟨gc,i*6,none⟩=some (O J c.pos)/\W.cell? ⟨gc,i*6+1,none⟩=some (O J c.dir)/\W.cell? ⟨gc,i*6+2,none⟩=some (O J c.mode)/\W.cell? ⟨gc,i*6+3,none⟩=some (O J c.left)/\W.cell? ⟨gc,i*6+4,none⟩=some (.bool c.wt)/\W.cell? ⟨gc,i*6+5,none⟩=some (.slice A rn rk)/\Below w.heap.size w W from⟨zf hb x0,⟨zf hb w0,zf hb w1,zf hb w2,zf hb w3,zf hb w4,zf hb w5,zf hb w6,zf hb w7,zf hb w8,zf hb w9,zf hb w10,zf hb w11,zf hb w12⟩,zf hb w13,zf hb w14,zf hb r0,zf hb r1,zf hb r2,zf hb r3,zf hb r4,zf hb r5,hb⟩))
  go_region_held3 (fun W=>W.cell? ⟨x,0,none⟩=some (.pointer (some ⟨wb,0,none⟩))/\s.K sA sn sk W wb/\W.cell? ⟨wb,13,none⟩=some (.pointer (some ⟨h,0,none⟩))/\W.cell? ⟨wb,14,none⟩=some (.slice (some ⟨gc,0,none⟩) L.length ck)/\W.cell? ⟨gc,i*6,none⟩=some (O J c.pos)/\W.cell? ⟨gc,i*6+1,none⟩=some (O J c.dir)/\W.cell? ⟨gc,i*6+2,none⟩=some (O J c.mode)/\W.cell? ⟨gc,i*6+3,none⟩=some (O J c.left)/\W.cell? ⟨gc,i*6+4,none⟩=some (.bool c.wt)/\W.cell? ⟨gc,i*6+5,none⟩=some (.slice A rn rk)/\Below w.heap.size w W)
   (((refine MK.o _ ?_);(first|(with_reducible exact HBN.o)|(with_reducible exact fh.drew)|(go_grown;done)|(go_grown;with_reducible exact HBN.o))))
   (first
  |(go_at_call 192;go_split_ands;(with_reducible refine(HLD.o 1 _ (by assumption)).mono ?_);rintro r wA ⟨⟨m0,m1,rfl⟩,hbX⟩;have HBM:=ze ((‹Below w.heap.size w _›).trans (hbX.mono (‹Below w.heap.size w _›).size));(try clear HBN);have HBN:=ze HBM.o;clear HBM hbX)
  |(go_at_call 192;go_split_ands;(with_reducible refine(HLD.o (-1) _ (by assumption)).mono ?_);rintro r wB ⟨⟨u0,u1,rfl⟩,hbX⟩;have HBM:=ze ((‹Below w.heap.size w _›).trans (hbX.mono (‹Below w.heap.size w _›).size));(try clear HBN);have HBN:=ze HBM.o;clear HBM hbX)
  |(go_at_call 245;go_split_ands;(with_reducible refine(HNX.o m0 m1 u0 u1 _ (by assumption)).mono ?_);rintro r wC ⟨hnr,hbX⟩;obtain⟨nu,nv,rfl,hnv⟩:=NextR.split hnr HW.o.m0 HW.o.m1;have HNR:=ze hnv;clear hnr hnv;have HBM:=ze ((‹Below w.heap.size w _›).trans (hbX.mono (‹Below w.heap.size w _›).size));(try clear HBN);have HBN:=ze HBM.o;clear HBM hbX))
  all_goals(
   go_wp2_with fail
   go_meet
   exact⟨HNR.o,HBN.o⟩)
 case rest=>
 obtain⟨hnr,hbw⟩:=hcut;obtain⟨V,hV⟩:∃ V,V=wc:=⟨_,rfl⟩;subst hV;have HB:=ze hbw;have HE:=ze (HH.o.below hbw);have hbs:=HH.o.bs;have hzV:=hbw.size;clear hbw x0 w0 w1 w2 w3 w4 w5 w6 w7 w8 w9 w10 w11 w12 w13 w14 r0 r1 r2 r3 r4 r5 HCR HLD HNX;obtain⟨⟨-,-,x4,-,-⟩,-,-⟩:=HE.o.cells;obtain⟨a',ha',ac,-⟩:=HE.o.ao.int_at rfl hia;obtain rfl:a'=a:=Option.some.inj (ha'.symm.trans HA.o);dsimp only at x4 ac;clear ha';rcases hnr with⟨N,rfl,rfl,hN⟩|⟨rfl,rfl,hm0⟩
 ·have n0:=hN.n0;have n1:=hN.n1;have HN:=ze hN;clear hN;have HSET:=ze (fun W(hb:Below V.heap.size V W)=>Qr (F:=F) x g nm HL.length m HL l ⟨a'+N-1,1,(i:Int)⟩ W (HE.o.cs.below hb) rfl (by omega) (by omega) ⟨zQ (by show _<=a'+N-1;omega) (by show a'+N-1<=_;omega),zQ (show(-1000000000:Int)<=1 by decide) (show(1:Int)<=1000000000 by decide),zQ (by show _<=(i:Int);omega) (by show(i:Int)<=_;omega)⟩);go_upto_region 3 with(fail);have e1:IntKind.i64.wrap (a'+N)=a'+N:=IntWalk.i64_in _ (by omega);have e2:IntKind.i64.wrap (a'+N-1)=a'+N-1:=IntWalk.i64_in _ (by omega)
  go_region_with (go_at_call 139;(with_reducible refine(HSET.o _ fh.drew).mono ?_);rintro r w5 ⟨rfl,hP⟩;have HP:=ze hP;clear hP x4 ac e1 e2)
  all_goals(
   go_wp2_with fail;go_end0;obtain⟨g',b',n',L',h1,h2,h3,h4,h5⟩:=HP.o;obtain⟨l',h6,h7⟩:=un ⟨a'+N-1,1,(i:Int)⟩ (wo l 1 i) (JK HE.o.cs.ch.srt 1 i);have h8:=(HE.o.below fh.drew).cal (h1 l' h6 h7) h4 h5;exact⟨rfl,(HB.o.mono hbs).trans (fh.drew.trans h8.2),g',some b',n',L',l',_,h8.1,h2,h3,.inl ⟨N,HN.o,h7⟩⟩)
 ·have HM:=ze hm0;clear hm0;have HDR:=ze (fun W(hb:Below V.heap.size V W)=>WE (F:=F) x g nm m HL l 1 (i:Int) W (HE.o.cs.below hb) (zQ (show(-1000000000:Int)<=1 by decide) (show(1:Int)<=1000000000 by decide)) (zQ (by omega) (by omega)));go_wp2_with(go_at_call 246;(with_reducible refine(HDR.o _ fh).mono ?_);rintro r w5 ⟨⟨z,ok,rfl,-⟩,hC,hP⟩;have HP:=ze hP;have HC:=ze hC;clear hP hC x4 ac);go_end0;have h8:=HE.o.cal HC.o HP.o (fun k _ h=>h);exact⟨rfl,(HB.o.mono hbs).trans h8.2,g,m,nm,HL,wo l 1 i,_,h8.1,Nat.le_succ _,Nat.le_succ _,.inr ⟨HM.o,rfl⟩⟩
structure EI(s:Sc)(tau M:Int)(E:Egs)(ex:Nat->Prop):Prop where
 inv:EInv s tau E.T E.P E.L E.at_ E.trips E.S.L E.l ex
 tk:∀(i:Nat)(b:Bu)(a:Int),E.Y[i]?=some b->E.at_[i]?=some a->b.t=a
 yl:E.Y.length=E.L.length
 mx:∀ a∈E.at_,a<=M
 n:E.L.length<=16
 m:M<=1000000
structure Bd(M:Int)(E:Egs)(r K:Nat):Prop where
 hl:E.HL.length+r+18*zM M E.P E.at_<=K
 nm:E.nm+r+18*zM M E.P E.at_<=K
 nw:E.S.nw+r+18*zM M E.P E.at_<=K
 nc:E.S.nc+r+18*zM M E.P E.at_<=K
theorem Bd.less{M:Int}{E:Egs}{r r' K:Nat}(h:Bd M E r K)(hr:r'<=r):Bd M E r' K:=
 ⟨by have:=h.hl;omega,by have:=h.nm;omega,by have:=h.nw;omega,by have:=h.nc;omega⟩
structure SameC(E E':Egs):Prop where
 T:E'.T=E.T
 P:E'.P=E.P
 trips:E'.trips=E.trips
 S:E'.S=E.S
 l:E'.l=E.l
 HL:E'.HL=E.HL
 nm:E'.nm=E.nm
 len:E'.L.length=E.L.length
theorem SameC.refl(E:Egs):SameC E E:=⟨rfl,rfl,rfl,rfl,rfl,rfl,rfl,rfl⟩
theorem SameC.trans{E E1 E2:Egs}(a:SameC E E1)(b:SameC E1 E2):SameC E E2:=
 ⟨b.T.trans a.T,b.P.trans a.P,b.trips.trans a.trips,b.S.trans a.S,b.l.trans a.l,b.HL.trans a.HL,b.nm.trans a.nm,b.len.trans a.len⟩
section
variable{s:Sc}{tau M:Int}{E E':Egs}{ex ex':Nat->Prop}
theorem EI.at_(h:EI s tau M E ex){i:Nat}(hi:i<E.L.length):∃ x a b,E.L[i]?=some x/\E.at_[i]?=some a/\E.Y[i]?=some b/\b.t=a/\CarW s x.c x.l/\0<=a/\a<=M:=by
 have h1:i<E.at_.length:=by rw[h.inv.len];exact hi
 have h2:i<E.Y.length:=by rw[h.yl];exact hi
 have e0:=List.getElem?_eq_getElem hi;have e1:=List.getElem?_eq_getElem h1;have e2:=List.getElem?_eq_getElem h2;exact⟨_,_,_,e0,e1,e2,h.tk i _ _ e2 e1,h.inv.car _ (List.mem_of_getElem? e0),h.inv.at0 _ (List.mem_of_getElem? e1),h.mx _ (List.mem_of_getElem? e1)⟩
theorem EI.can(h:EI s tau M E ex){i:Nat}{b:Int}{x:Ca}{a:Int}(hx:E.L[i]?=some x)(ha:E.at_[i]?=some a)(hex:¬ ex i)(hb:∀ e∈E.l,e.k=1->e.i=i->b<=e.t)(hm:x.c.mode≠0):∃ t,CarT s.gap x.c a t/\b<=t:=by
 obtain⟨e,h1,h2,h3⟩:=h.inv.lk i x hx hex hm;rcases h.inv.ev e h1 with⟨-,j,x',a',h4,h5,h6,h7⟩|⟨h4,-⟩
 ·obtain rfl:j=i:=by omega
  obtain rfl:=Option.some.inj (h5.symm.trans hx);obtain rfl:=Option.some.inj (h6.symm.trans ha);exact⟨e.t,h7,hb e h1 h2 h3⟩
 ·omega
end
structure AdvR(E E':Egs)(i:Nat)(b:Int):Prop where
 same:SameC E E'
 at_:∀ a,E.at_[i]?=some a->E'.at_[i]?=some (max a b)
 oth:∀ j,j≠i->E'.at_[j]?=E.at_[j]?/\E'.L[j]?=E.L[j]?
 td:∀ u,zM u E'.P E'.at_<=zM u E.P E.at_
def en(base:Nat)(s:Sc)(sA:Option Addr)(sn sk x:Nat)(tau M:Int)(ex:Nat->Prop)(E:Egs)(w:World)(i:Nat)(b:Int)(e:Ending)(w':World):Prop:=
 e=.returned (.tuple #[])/\Below base w w'/\∃ E',Eg base s sA sn sk x E' w'/\EI s tau M E' ex/\AdvR E E' i b
theorem xj(base:Nat)(s:Sc)(hs:s.ok)(sA:Option Addr)(sn sk x:Nat)(tau M:Int)(ex:Nat->Prop)(E:Egs)(w:World)(H:Eg base s sA sn sk x E w)(hI:EI s tau M E ex)(i:Nat)(hi:i<E.L.length)(b:Int)(b0:0<=b)(bM:b<=M)
  (hT:∀ z a,E.L[i]?=some z->E.at_[i]?=some a->z.c.mode≠0->∃ t,CarT s.gap z.c a t/\b<=t)(he:∀ e∈E.l,e.k=1->e.i=i->b<=e.t):
  Calls prog 141 #[.pointer (some ⟨x,0,none⟩),O J (i:Int),O J b] w (en base s sA sn sk x tau M ex E w i b):=by
 obtain⟨c,a,bu,h1,h2,h3,h4,h5,h6,h7⟩:=hI.at_ hi;have hM:=hI.m;by_cases hab:b<=a
 ·refine(Z9 base s sA sn sk x E w i b a c bu H h1 h2 h3 h4 h5 hs h6 (by omega) b0 (by omega) hab).mono fun e w'⟨he,hb,hP⟩=>⟨he,hb,?_⟩
  rcases hP with⟨_,hE⟩|⟨h,_⟩
  ·exact⟨E,hE,hI,SameC.refl E,fun a' ha'=>by rw[h2]at ha';cases ha';rw[h2];congr 1;omega,fun _ _=>⟨rfl,rfl⟩,fun _=>fi⟩
  ·omega
 ·refine(yZ base s sA sn sk x E w i b a c bu H h1 h2 h3 h4 h5 hs h6 (by omega) b0 (by omega) (by omega) (hT c a h1 h2)).mono fun e w'⟨he',hb,hP⟩=>⟨he',hb,?_⟩
  rcases hP with⟨h,_⟩|⟨_,bu',l',t',hbu,hE⟩
  ·omega
  ·have hlt:=(List.getElem?_eq_some_iff.1 h2).1;refine⟨_,hE,⟨hI.inv.adv h1 h2 (by omega) (hT c a h1 h2) he,?_,?_,?_,by show(E.L.set i _).length<=16;rw[List.length_set];exact hI.n,hM⟩,⟨rfl,rfl,rfl,rfl,rfl,rfl,rfl,List.length_set ..⟩,?_,?_,?_⟩
   ·intro j y z hj hz;dsimp only at hj hz;rcases zx hj with⟨rfl,rfl,-⟩|⟨hne,hj⟩
    ·rcases zx hz with⟨-,rfl,-⟩|⟨hne,-⟩
     ·exact hbu
     ·exact absurd rfl hne
    ·rcases zx hz with⟨rfl,-,-⟩|⟨-,hz⟩
     ·exact absurd rfl hne
     ·exact hI.tk j y z hj hz
   ·show(E.Y.set i _).length=(E.L.set i _).length
    rw[List.length_set,List.length_set];exact hI.yl
   ·intro z hz;obtain⟨k,hk⟩:=List.getElem?_of_mem hz;dsimp only at hk;rcases zx hk with⟨-,rfl,-⟩|⟨-,hk⟩
    ·exact bM
    ·exact hI.mx z (List.mem_of_getElem? hk)
   ·intro a' ha';rw[h2]at ha';cases ha'
    show(E.at_.set i b)[i]?=_
    rw[List.getElem?_set,if_pos rfl,if_pos hlt];congr 1;omega
   ·intro j hj
    show(E.at_.set i b)[j]?=_/\(E.L.set i _)[j]?=_
    rw[List.getElem?_set,List.getElem?_set,if_neg (Ne.symm hj),if_neg (Ne.symm hj)];exact⟨rfl,rfl⟩
   ·intro u;exact GB h2 (by omega)
structure PlnR(E E':Egs)(i:Nat):Prop where
 T:E'.T=E.T
 P:E'.P=E.P
 trips:E'.trips=E.trips
 S:E'.S=E.S
 L:E'.L=E.L
 at_:E'.at_=E.at_
 hl:E'.HL.length<=E.HL.length+1
 nm:E'.nm<=E.nm+1
 sub:∀ e∈E'.l,(e.k=1/\e.i=i)\/e∈E.l
theorem PlnR.bd{M:Int}{E E':Egs}{i r K:Nat}(h:PlnR E E' i)(hb:Bd M E (r+1) K):Bd M E' r K:=by
 obtain⟨h1,h2,h3,h4⟩:=hb;have e1:=h.hl;have e2:=h.nm;exact⟨by rw[h.P,h.at_];omega,by rw[h.P,h.at_];omega,by rw[h.P,h.at_,h.S];omega,by rw[h.P,h.at_,h.S];omega⟩
def eo(base:Nat)(s:Sc)(sA:Option Addr)(sn sk x:Nat)(tau M:Int)(ex:Nat->Prop)(E:Egs)(w:World)(i:Nat)(e:Ending)(w':World):Prop:=
 e=.returned (.tuple #[])/\Below base w w'/\∃ E',Eg base s sA sn sk x E' w'/\EI s tau M E' (fun k=>ex k/\k≠i)/\PlnR E E' i
theorem xl(base:Nat)(s:Sc)(hs:s.ok)(sA:Option Addr)(sn sk x:Nat)(tau M:Int)(ex:Nat->Prop)(E:Egs)(w:World)(H:Eg base s sA sn sk x E w)(hI:EI s tau M E ex)(i:Nat)(hi:i<E.L.length)(hta:∀ a,E.at_[i]?=some a->tau<=a){r K:Nat}(hB:Bd M E r K)(hK:K<=99000):
  Calls prog 218 #[.pointer (some ⟨x,0,none⟩),O J (i:Int)] w (eo base s sA sn sk x tau M ex E w i):=by
 obtain⟨c,a,bu,h1,h2,h3,h4,h5,h6,h7⟩:=hI.at_ hi;have hM:=hI.m;have hn:=hI.n;refine(GE base s sA sn sk x E w i a c H h1 h2 h5 hs h6 (by omega) (by have:=hB.hl;omega) (by have:=hB.nm;omega) (by omega)).mono fun e w'⟨he,hb,g',m',n',HL',l',t',hE,k1,k2,k3⟩=>⟨he,hb,_,hE,?_,?_⟩
 ·refine⟨?_,hI.tk,hI.yl,hI.mx,hI.n,hM⟩;rcases k3 with⟨N,hN,hp⟩|⟨hm,rfl⟩
  ·exact hI.inv.plan h1 h2 (hta a h2) hN hp
  ·exact hI.inv.rest h1 hm
 ·refine⟨rfl,rfl,rfl,rfl,rfl,rfl,k1,k2,fun f hf=>?_⟩;rcases k3 with⟨N,hN,hp⟩|⟨hm,rfl⟩
  ·rcases List.mem_cons.1 (hp.mem_iff.1 hf)with rfl|hf
   ·exact .inl ⟨rfl,rfl⟩
   ·exact .inr (zY.1 hf).1
  ·exact .inr (zY.1 hf).1
end
end Go.Proofs.YtdeogmbfgkepeaaGreatDoor
