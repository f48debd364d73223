/- Contracts for WholeDelivers. -/
import Derived.Test.YtdeogmbfgkepeaaGreatDoorR44
import Derived.Test.YtdeogmbfgkepeaaGreatDoorR45
import Derived.Test.YtdeogmbfgkepeaaGreatDoorR46
set_option linter.unusedVariables false
set_option linter.unusedSimpArgs false
set_option maxRecDepth 100000
set_option maxHeartbeats 64000000
namespace Go.Proofs.YtdeogmbfgkepeaaGreatDoor
open Go.Proofs.Tryz
open Go.Value renaming int->O
open Go.IntKind renaming i64->J
section
open Go.RowKit HB Go.Maps CalP HeapP
structure EI(s:Sc)(tau M:Int)(E:Egs)(ex:Nat->Prop):Prop where
 inv:EInv s tau E.T E.P E.L E.at_ E.trips E.S.L E.l ex
 tk:∀(i:Nat)(b:Bu)(a:Int),E.Y[i]?=some b->E.at_[i]?=some a->b.t=a
 yl:E.Y.length=E.L.length
 mx:∀ a∈E.at_,a<=M
 n:E.L.length<=16
 m:M<=1000000
structure Bd(M:Int)(E:Egs)(r K:Nat):Prop where
 hl:E.HL.length+r+18*zM M E.P E.at_<=K
 nm:E.nm+r+18*zM M E.P E.at_<=K
 nw:E.S.nw+2*zM M E.P E.at_<=500000
 nc:E.S.nc+2*zM M E.P E.at_<=500000
theorem Bd.less{M:Int}{E:Egs}{r r' K:Nat}(h:Bd M E r K)(hr:r'<=r):Bd M E r' K:=
 ⟨by have:=h.hl;omega,by have:=h.nm;omega,by have:=h.nw;omega,by have:=h.nc;omega⟩
structure SameC(E E':Egs):Prop where
 T:E'.T=E.T
 P:E'.P=E.P
 trips:E'.trips=E.trips
 S:E'.S=E.S
 l:E'.l=E.l
 HL:E'.HL=E.HL
 nm:E'.nm=E.nm
 len:E'.L.length=E.L.length
theorem SameC.refl(E:Egs):SameC E E:=⟨rfl,rfl,rfl,rfl,rfl,rfl,rfl,rfl⟩
theorem SameC.trans{E E1 E2:Egs}(a:SameC E E1)(b:SameC E1 E2):SameC E E2:=
 ⟨b.T.trans a.T,b.P.trans a.P,b.trips.trans a.trips,b.S.trans a.S,b.l.trans a.l,b.HL.trans a.HL,b.nm.trans a.nm,b.len.trans a.len⟩
section
variable{s:Sc}{tau M:Int}{E E':Egs}{ex ex':Nat->Prop}
theorem EI.at_(h:EI s tau M E ex){i:Nat}(hi:i<E.L.length):∃ x a b,E.L[i]?=some x/\E.at_[i]?=some a/\E.Y[i]?=some b/\b.t=a/\CarW s x.c x.l/\0<=a/\a<=M:=by
 have h1:i<E.at_.length:=by rw[h.inv.len];exact hi
 have h2:i<E.Y.length:=by rw[h.yl];exact hi
 have e0:=kD hi;have e1:=kD h1;have e2:=kD h2;exact⟨_,_,_,e0,e1,e2,h.tk i _ _ e2 e1,h.inv.car _ (jx e0),h.inv.at0 _ (jx e1),h.mx _ (jx e1)⟩
theorem EI.can(h:EI s tau M E ex){i:Nat}{b:Int}{x:Ca}{a:Int}(hx:E.L[i]?=some x)(ha:E.at_[i]?=some a)(hex:¬ ex i)(hb:∀ e∈E.l,e.k=1->e.i=i->b<=e.t)(hm:x.c.mode≠0):∃ t,CarT s.gap x.c a t/\b<=t:=by
 obtain⟨e,h1,h2,h3⟩:=h.inv.lk i x hx hex hm;rcases h.inv.ev e h1 with⟨-,j,x',a',h4,h5,h6,h7⟩|⟨h4,-⟩
 ·obtain rfl:j=i:=by omega
  obtain rfl:=ve (h5.symm.trans hx);obtain rfl:=ve (h6.symm.trans ha);exact⟨e.t,h7,hb e h1 h2 h3⟩
 ·omega
end
structure AdvR(E E':Egs)(i:Nat)(b:Int):Prop where
 same:SameC E E'
 at_:∀ a,E.at_[i]?=some a->E'.at_[i]?=some (max a b)
 oth:∀ j,j≠i->E'.at_[j]?=E.at_[j]?/\E'.L[j]?=E.L[j]?
 td:∀ u,zM u E'.P E'.at_<=zM u E.P E.at_
theorem gU(c:Cr):aft c 0=c:=by
 unfold aft;split
 ·simp
 ·split
  ·simp
  ·rfl
structure AdvL(s:Sc)(E E':Egs)(i:Nat)(b:Int):Prop where
 lv:∀ T exv,b<=T+1->(∀z a,E.L[i]?=some z->E.at_[i]?=some a->a<=b->z.c.mode=1->∃ m,b-a<=m/\0<=z.c.pos+z.c.dir*m/\z.c.pos+z.c.dir*m<=(s.fl-1)*s.gap)->LV s T E.L E.at_ E.trips E.S E.l exv->LV s T E'.L E'.at_ E'.trips E'.S E'.l exv
 own:∀ z a,E.L[i]?=some z->E.at_[i]?=some a->a<=b->E'.L=E.L.set i {z with c:=aft z.c (b-a)}/\E'.at_=E.at_.set i b
def en(base:Nat)(s:Sc)(sA:iX)(sn sk x:Nat)(tau M:Int)(ex:Nat->Prop)(E:Egs)(w:l6)(i:Nat)(b:Int)(e:Ending)(w':l6):Prop:=
 e=.returned (.tuple #[])/\Below base w w'/\∃ E',Eg base s sA sn sk x E' w'/\EI s tau M E' ex/\AdvR E E' i b/\AdvL s E E' i b
theorem xj(base:Nat)(s:Sc)(hs:s.ok)(sA:iX)(sn sk x:Nat)(tau M:Int)(ex:Nat->Prop)(E:Egs)(w:l6)(H:Eg base s sA sn sk x E w)(hI:EI s tau M E ex)(i:Nat)(hi:i<E.L.length)(b:Int)(b0:0<=b)(bM:b<=M)
  (hT:∀ z a,E.L[i]?=some z->E.at_[i]?=some a->z.c.mode≠0->∃ t,CarT s.gap z.c a t/\b<=t)(he:∀ e∈E.l,e.k=1->e.i=i->b<=e.t):
  Calls prog 141 #[.pointer (some ⟨x,0,none⟩),O J (i:Int),O J b] w (en base s sA sn sk x tau M ex E w i b):=by
 obtain⟨c,a,bu,h1,h2,h3,h4,h5,h6,h7⟩:=hI.at_ hi;have hM:=hI.m;by_cases h9:b<=a
 ·refine(Z9 base s sA sn sk x E w i b a c bu H h1 h2 h3 h4 h5 hs h6 (by omega) b0 (by omega) h9).mono fun e w'⟨he,hb,hP⟩=>⟨he,hb,?_⟩
  rcases hP with⟨_,hE⟩|⟨h,_⟩
  ·refine⟨E,hE,hI,⟨SameC.refl E,fun a' h0=>by rw[h2]at h0;cases h0;rw[h2];congr 1;omega,fun _ _=>⟨rfl,rfl⟩,fun _=>fi⟩,fun _ _ _ _ h=>h,fun z d hz hd hg=>?_⟩;obtain rfl:=ve (h2.symm.trans hd);obtain rfl:a=b:=by omega
   rw[Int.sub_self,gU];exact⟨(fe hz).symm,(fe hd).symm⟩
  ·omega
 ·refine(yZ base s sA sn sk x E w i b a c bu H h1 h2 h3 h4 h5 hs h6 (by omega) b0 (by omega) (by omega) (hT c a h1 h2)).mono fun e w'⟨he',hb,hP⟩=>⟨he',hb,?_⟩
  rcases hP with⟨h,_⟩|⟨_,bu',l',t',hc,hE⟩
  ·omega
  ·have hf:=(qd.1 h2).1;refine⟨_,hE,⟨hI.inv.adv h1 h2 (by omega) (hT c a h1 h2) he,?_,?_,?_,by show(E.L.set i _).length<=16;rw[ye];exact hI.n,hM⟩,⟨⟨rfl,rfl,rfl,rfl,rfl,rfl,rfl,ye ..⟩,?_,?_,?_⟩,fun T exv ha hr hv=>hv.adv h1 h2 (by omega) ha (hr c a h1 h2 (by omega)) he,fun z d hz hd _=>by
    obtain rfl:=ve (h1.symm.trans hz);obtain rfl:=ve (h2.symm.trans hd);exact⟨rfl,rfl⟩⟩
   ·intro j y z hj hz;dsimp only at hj hz;rcases zx hj with⟨rfl,rfl,-⟩|⟨h8,hj⟩
    ·rcases zx hz with⟨-,rfl,-⟩|⟨h8,-⟩
     ·exact hc
     ·exact absurd rfl h8
    ·rcases zx hz with⟨rfl,-,-⟩|⟨-,hz⟩
     ·exact absurd rfl h8
     ·exact hI.tk j y z hj hz
   ·show(E.Y.set i _).length=(E.L.set i _).length
    rw[ye,ye];exact hI.yl
   ·intro z hz;obtain⟨k,hk⟩:=Z5 hz;dsimp only at hk;rcases zx hk with⟨-,rfl,-⟩|⟨-,hk⟩
    ·exact bM
    ·exact hI.mx z (jx hk)
   ·intro a' h0;rw[h2]at h0;cases h0
    show(E.at_.set i b)[i]?=_
    rw[vt,if_pos rfl,if_pos hf];congr 1;omega
   ·intro j hj
    show(E.at_.set i b)[j]?=_/\(E.L.set i _)[j]?=_
    rw[vt,vt,if_neg (Ne.symm hj),if_neg (Ne.symm hj)];exact⟨rfl,rfl⟩
   ·intro u;exact GB h2 (by omega)
structure PlnR(E E':Egs)(i:Nat):Prop where
 T:E'.T=E.T
 P:E'.P=E.P
 trips:E'.trips=E.trips
 S:E'.S=E.S
 L:E'.L=E.L
 at_:E'.at_=E.at_
 hl:E'.HL.length<=E.HL.length+1
 nm:E'.nm<=E.nm+1
 sub:∀ e∈E'.l,(e.k=1/\e.i=i)\/e∈E.l
theorem PlnR.bd{M:Int}{E E':Egs}{i r K:Nat}(h:PlnR E E' i)(hb:Bd M E (r+1) K):Bd M E' r K:=by
 obtain⟨h1,h2,h3,h4⟩:=hb;have e1:=h.hl;have e2:=h.nm;exact⟨by rw[h.P,h.at_];omega,by rw[h.P,h.at_];omega,by rw[h.P,h.at_,h.S];omega,by rw[h.P,h.at_,h.S];omega⟩
structure PlnL(s:Sc)(E E':Egs)(i:Nat):Prop where
 lv:∀ T exv,LV s T E.L E.at_ E.trips E.S E.l exv->LV s T E'.L E'.at_ E'.trips E'.S E'.l (fun k=>exv k/\k≠i)
 ar:∀ e∈E.l,e.k=0->e∈E'.l
def eo(base:Nat)(s:Sc)(sA:iX)(sn sk x:Nat)(tau M:Int)(ex:Nat->Prop)(E:Egs)(w:l6)(i:Nat)(e:Ending)(w':l6):Prop:=
 e=.returned (.tuple #[])/\Below base w w'/\∃ E',Eg base s sA sn sk x E' w'/\EI s tau M E' (fun k=>ex k/\k≠i)/\PlnR E E' i/\PlnL s E E' i
theorem xl(base:Nat)(s:Sc)(hs:s.ok)(sA:iX)(sn sk x:Nat)(tau M:Int)(ex:Nat->Prop)(E:Egs)(w:l6)(H:Eg base s sA sn sk x E w)(hI:EI s tau M E ex)(i:Nat)(hi:i<E.L.length)(hta:∀ a,E.at_[i]?=some a->tau<=a){r K:Nat}(hB:Bd M E r K)(hK:K<=1500000):
  Calls prog 218 #[.pointer (some ⟨x,0,none⟩),O J (i:Int)] w (eo base s sA sn sk x tau M ex E w i):=by
 obtain⟨c,a,bu,h1,h2,h3,h4,h5,h6,h7⟩:=hI.at_ hi;have hM:=hI.m;have hn:=hI.n;refine(GE base s sA sn sk x E w i a c H h1 h2 h5 hs h6 (by omega) (by have:=hB.hl;omega) (by have:=hB.nm;omega) (by omega)).mono fun e w'⟨he,hb,g',m',n',HL',l',t',hE,k1,k2,k3⟩=>⟨he,hb,_,hE,?_,?_,?_,?_⟩
 ·refine⟨?_,hI.tk,hI.yl,hI.mx,hI.n,hM⟩;rcases k3 with⟨N,hN,-,hp⟩|⟨hm,-,rfl⟩
  ·exact hI.inv.plan h1 h2 (hta a h2) hN hp
  ·exact hI.inv.rest h1 hm
 ·refine⟨rfl,rfl,rfl,rfl,rfl,rfl,k1,k2,fun f hf=>?_⟩;rcases k3 with⟨N,hN,-,hp⟩|⟨hm,-,rfl⟩
  ·rcases qx.1 (hp.mem_iff.1 hf)with rfl|hf
   ·exact .inl ⟨rfl,rfl⟩
   ·exact .inr (zY.1 hf).1
  ·exact .inr (zY.1 hf).1
 ·exact fun T exv hv=>hv.plan hs h1 h2 (k3.imp (fun⟨N,_,a1,a2⟩=>⟨N,a1,a2⟩) (fun⟨_,a1,a2⟩=>⟨a1,a2⟩))
 ·intro f hf h0;have hw:f∈wo E.l 1 i:=zY.2 ⟨hf,fun h=>by omega⟩;rcases k3 with⟨N,-,-,hp⟩|⟨-,-,rfl⟩
  ·exact hp.mem_iff.2 (yP _ hw)
  ·exact hw
section
variable{base:Nat}{s:Sc}{sA:iX}{sn sk x:Nat}{E:Egs}{w w':l6}{tau M:Int}{ex:Nat->Prop}
theorem Wd.oks{wb h:Nat}{S:HS}{cv tv:Value}{L:List Ca}{trips:List Tr}{T:Int}(H:Wd base s sA sn sk wb h w S cv tv L trips T)(hs:s.ok)(hw:∀ x∈L,CarW s x.c x.l):∀ x∈L,x.ok s.gap:=fun x hx=>by
 have h:=hw x hx;have h1:=(H.ri x hx).1.2;have h2:=h.cp;have h3:=hs.cap;exact⟨h.p0,h.p1,h.d0,h.d1,by omega⟩
def dD(base:Nat)(s:Sc)(sA:iX)(sn sk x:Nat)(tau M:Int)(ex:Nat->Prop)(E:Egs)(p:Pa)(P':List Pa)(w:l6)(e:Ending)(w':l6):Prop:=
 e=.returned (.tuple #[])/\Below base w w'/\∃(S':HS)(tv':Value)(trips':List Tr)(t':Nat->Nat),Eg base s sA sn sk x {E with S:=S',tv:=tv',trips:=trips',tag:=t'} w'/\
  EI s tau M {E with S:=S',tv:=tv',trips:=trips',tag:=t',P:=P'} ex/\S'.nw<=E.S.nw+1/\S'.nc<=E.S.nc+1/\trips'.length=E.trips.length+1/\(∀T exv,0<=p.frm/\p.frm<s.fl/\0<=p.to_/\p.to_<s.fl/\p.frm≠p.to_->LV s T E.L E.at_ E.trips E.S E.l exv->LV s T E.L E.at_ trips' S' E.l (fun _=>True))
theorem bw(hs:s.ok)(H:Eg base s sA sn sk x E w)(hI:EI s tau M E ex){p:Pa}{P':List Pa}(hP:E.P=p::P')(hk:∀ e∈E.l,e.k≠0)(hp:p.tick<=E.T)(ht:Tab w)(hD:5<base)(hl:E.trips.length<=1000000){r K:Nat}(hB:Bd M E r K)(hK:K<=1500000):
  Calls prog 142 #[.pointer (some ⟨E.wb,0,none⟩),.agg #[O J p.id,O J p.tick,O J p.frm,O J p.to_]] w (dD base s sA sn sk x tau M ex E p P' w):=by
 obtain⟨A,c,h7,hn,-⟩:=H.wd.cr.shape;have h8:=hI.inv.ps.ok p (by rw[hP];exact xz ..);have h9:=hI.n;have h0:=hI.inv;have h6:∀ k,(E.S.L k).length<=1000000:=fun k=>vD (h0.inv.len k) hl
 have HW:=H.wd;rw[h7]at HW;refine(Xy base s hs sA sn sk E.wb E.h w E.S A E.L.length c E.tv E.L E.trips E.T p.id p.tick p.frm p.to_ HW (HW.oks hs h0.car) (by omega) h8.2.2.1 (by omega) h8.2.2.2.2.1 (by omega) ht hD hl (by have:=hB.nw;omega) (by have:=hB.nc;omega) h6).mono fun e w'⟨he,S',tv',key,wt,hN,h1,h2,h3,h4,h5⟩=>?_
 rw[<-h7]at hN;obtain⟨hE,hb⟩:=H.world hN;refine⟨he,hb,S',tv',_,_,hE,⟨?_,hI.tk,hI.yl,hI.mx,hI.n,hI.m⟩,h3,h4,by simp,fun T exv hp hv=>hv.come hs hp h5 h2 hE.wd.hl.non (by rw[h1,h0.ps.id 0 p (by rw[hP];rfl)];rfl) (fun x hx r hr=>⟨(Xn h0.inv hx hr).1,(Xn h0.inv hx hr).2.1⟩) _⟩
 show EInv s tau E.T P' E.L E.at_ (E.trips++[_]) S'.L E.l ex
 rw[h2];rw[hP]at h0;exact h0.adm hk hp key wt h1 _ rfl rfl rfl
end
structure LE0(s:Sc)(tau M last:Int)(E:Egs):Prop where
 lv:LV s tau E.L E.at_ E.trips E.S E.l (fun _=>False)
 pv:PV s last E.P
 cl:CL s M E.P E.L E.at_ E.trips E.S
 hM:last+2*(((E.trips.length+E.P.length:Nat):Int))*qt s<=M
structure LE(s:Sc)(tau M last:Int)(E:Egs):Prop where
 o:LE0 s tau M last E
 ar:E.P≠[]->∃ e∈E.l,e.k=0
structure LEe(s:Sc)(tick M last:Int)(E:Egs)(i:Nat):Prop where
 lv:LV s tick E.L E.at_ E.trips E.S E.l (fun k=>k=i)
 nx:∀ z a,E.L[i]?=some z->E.at_[i]?=some a->NextX s (fC s i z.l E.S) z.c (tick-a+1)
 pv:PV s last E.P
 cl:CL s M E.P E.L E.at_ E.trips E.S
 hM:last+2*(((E.trips.length+E.P.length:Nat):Int))*qt s<=M
 ar:E.P≠[]->∃ e∈E.l,e.k=0
theorem gV{s:Sc}(hs:s.ok):0<=qt s:=by
 have:=hs.opn;have:=hs.tr;have:=hs.dw;have:=hs.cl;have:=hs.gap;have:=hs.fl;have ht:0<=(s.fl-1)*s.gap:=JE (by omega) (by omega);unfold qt;omega
section
variable{s:Sc}{tau tick M last:Int}{E E1 E2:Egs}{ex exv:Nat->Prop}{i j:Nat}{b:Int}{z y:Ca}{gone:Bool}{trips3:List Tr}{S3:HS}
theorem EI.rng(hI:EI s tau M E ex)(hv:LV s tick E.L E.at_ E.trips E.S E.l exv)(hex:¬ ex i)(he:∀ e∈E.l,e.k=1->e.i=i->b<=e.t):
  ∀z a,E.L[i]?=some z->E.at_[i]?=some a->a<=b->z.c.mode=1->∃ m,b-a<=m/\0<=z.c.pos+z.c.dir*m/\z.c.pos+z.c.dir*m<=(s.fl-1)*s.gap:=fun z a hz ha _ hm=>by
 obtain⟨e,h1,h2,h3⟩:=hI.inv.lk i z hz hex (by omega);exact⟨e.t-a,by have:=he e h1 h2 h3;omega,hv.evr e h1 h2 i z a h3 hz ha hm⟩
theorem LEe.start(hs:s.ok)(h:LEe s tick M last E i)(hA:AdvL s E E1 i tick)(hS:SameC E E1){z0:Ca}{a0:Int}(hz0:E.L[i]?=some z0)(ha0:E.at_[i]?=some a0)(hle:a0<=tick)(hz:E1.L[i]?=some z)
  (hinv:Inv tick E1.trips E1.S.L (E1.L.map (·.l)))(t0:0<=tick)(hF:CarF s i z.c y.c z.l E1.S S3 gone)(hR:CarR s i tick z.c z.l E1.trips E1.S.L y.c y.l trips3 S3.L)(hnon:∀ k,S3.fw k=none->S3.L k=[])(he:∀ e∈E1.l,¬(e.k=1/\e.i=i)):
  LV s tick (E1.L.set i y) (E1.at_.set i (tick+1)) trips3 S3 E1.l (fun k=>gone=true\/k=i)/\PV s last E1.P/\(gone=true->FR s M tick E1.P trips3)/\CL s M E1.P (E1.L.set i y) (E1.at_.set i (tick+1)) trips3 S3/\(E1.P≠[]->∃ e∈E1.l,e.k=0):=by
 have h0:=jx hz0;have h5:LV s tick E1.L E1.at_ E1.trips E1.S E1.l (fun k=>k=i):=hA.lv tick _ (by omega) (fun z a h1 h2 h3 h4=>by
  obtain rfl:=ve (hz0.symm.trans h1);obtain rfl:=ve (ha0.symm.trans h2);have:=(h.nx _ _ h1 h2).rng hs (h.lv.hall.vw (h.lv.rid _ h0)) (h.lv.car _ h0) h4;exact⟨tick-a0,by omega,by rw[show tick-a0+1-1=tick-a0 from by omega]at this;exact this⟩) h.lv
 obtain⟨o1,o2⟩:=hA.own z0 a0 hz0 ha0 hle;have h8:CP s M tick E1.P E1.L E1.at_ E1.trips E1.S i:=by
  have:=CL.own h.cl hz0 ha0 (h.nx z0 a0 hz0 ha0);rw[o1,o2,hS.P,hS.trips,hS.S];exact this
 obtain⟨h6,hr⟩:=h5.step hs hz hinv t0 hF hR hnon (b:=tick+1) (Vu _) he;have h7:LV s tick (E1.L.set i y) (E1.at_.set i (tick+1)) trips3 S3 E1.l (fun k=>gone=true\/k=i):=h6.mono fun k _ h=>h.imp id (fun h=>h.elim id id)
 obtain⟨f1,f2⟩:=h8.step hs hz hr h5.hall h6.hall h7;exact⟨h7,by rw[hS.P];exact h.pv,f1,f2,by rw[hS.P,hS.l];exact h.ar⟩
theorem LE.arr(h:LE s tau M last E)(hI:EI s tau M E (fun _=>False)){T1:Int}{l0:List En}{p0:Pa}{P0:List Pa}(hl:E.l=⟨T1,0,0⟩::l0)(hP:E.P=p0::P0)(ht:T1=p0.tick)(h1:E1.P=E.P)(h2:E1.at_=E.at_)(h3:E1.trips=E.trips)(h4:E1.L=E.L)(h5:E1.S=E.S)(h6:E1.l=l0):LE0 s T1 M last E1/\T1<last:=by
 have hv:=h.o.lv;rw[hl]at hv;have h0:=hI.inv.low ⟨T1,0,0⟩ (by rw[hl];exact xz ..);have hp:=h.o.pv p0 (by rw[hP];exact xz ..);refine⟨⟨?_,by rw[h1];exact h.o.pv,by rw[h1,h2,h3,h4,h5];exact h.o.cl,by rw[h1,h3];exact h.o.hM⟩,by have:=hp.2.2.2.2.2;omega⟩;rw[h2,h3,h4,h5,h6];exact(hv.pop.mono fun k _ h=>h.elim id (fun h=>absurd h.1 (show¬(0:Int)=1 by decide))).time h0
theorem LE.evt(h:LE s tau M last E)(hI:EI s tau M E (fun _=>False)){T1:Int}{l0:List En}(hl:E.l=⟨T1,1,i⟩::l0)(h1:E1.P=E.P)(h2:E1.at_=E.at_)(h3:E1.trips=E.trips)(h4:E1.L=E.L)(h5:E1.S=E.S)(h6:E1.l=l0):LEe s T1 M last E1 i:=by
 have hv:=h.o.lv;rw[hl]at hv;have h0:=hI.inv.low ⟨T1,1,i⟩ (by rw[hl];exact xz ..);refine⟨?_,fun z a h7 h8=>?_,by rw[h1];exact h.o.pv,by rw[h1,h2,h3,h4,h5];exact h.o.cl,by rw[h1,h3];exact h.o.hM,fun hP=>?_⟩
 ·rw[h2,h3,h4,h5,h6];exact(hv.pop.mono fun k _ h=>h.elim False.elim (fun h=>by have h9:((i:Nat):Int)=(k:Int):=h.2;omega)).time h0
 ·rw[h4]at h7;rw[h2]at h8;rw[h5];exact hv.ev ⟨T1,1,i⟩ (xz ..) rfl i z a rfl h7 h8 id
 ·obtain⟨e,h7,h8⟩:=h.ar (by rw[<-h1];exact hP);rw[hl]at h7;rw[h6];rcases qx.1 h7 with rfl|h7
  ·cases h8
  ·exact⟨e,h7,h8⟩
theorem LE.done(hs:s.ok)(h:LE s tau M last E)(hI:EI s tau M E (fun _=>False))(hf:∀ f∈E.l,M<=f.t):E.P=[]/\∀ t∈E.trips,0<=t.al:=by
 have hP:E.P=[]:=by
  false_or_by_contra
  rename_i hP;obtain⟨e,h1,h2⟩:=h.ar hP;have h3:=hf e h1;rcases hI.inv.ev e h1 with⟨h4,-⟩|⟨-,-,p,P',h4,h5⟩
  ·omega
  ·have hp:=(h.o.pv p (by rw[h4];exact xz ..)).2.2.2.2.2;have hM:=h.o.hM;have:0<=2*(((E.trips.length+E.P.length:Nat):Int))*qt s:=JE (by omega) (gV hs);omega
 exact⟨hP,h.o.lv.done hs h.o.cl hP hf hI.inv.len⟩
end
def pLen(x:Nat)(w:l6):Nat:=match w.cell? ⟨x,1,none⟩with|some v=>di v|none=>0
theorem Eg.pLen{base:Nat}{s:Sc}{sA:iX}{sn sk x:Nat}{E:Egs}{w:l6}(H:Eg base s sA sn sk x E w):pLen x w=E.P.length:=by
 unfold Go.Proofs.YtdeogmbfgkepeaaGreatDoor.pLen;rw[H.cells.1.2.1,H.pl.1];rfl
theorem Eg.cvs{base:Nat}{s:Sc}{sA:iX}{sn sk x:Nat}{E:Egs}{w:l6}(H:Eg base s sA sn sk x E w):∃ A c,E.cv=.slice A E.L.length c:=by
 obtain⟨A,c,h,-,-⟩:=H.wd.cr.shape;exact⟨A,c,h⟩
def cQ(base:Nat)(s:Sc)(sA:iX)(sn sk x:Nat)(tick M:Int)(K:Nat)(E:Egs)(A:Int->Prop)(w:l6)(e:Ending)(w':l6):Prop:=
 e=.returned (.tuple #[])/\Below base w w'/\∃ E',Eg base s sA sn sk x E' w'/\EI s tick M E' (fun _=>False)/\Bd M E' 0 K/\zM M E'.P E'.at_+1<=zM M E.P E.at_/\E'.trips.length+E'.P.length=E.trips.length+E.P.length/\E'.L.length=E.L.length/\∀ last,A last->LE s tick M last E'
def ArrI(base:Nat)(s:Sc)(sA:iX)(sn sk x:Nat)(tick M:Int)(E:Egs)(w:l6)(j:Nat)(wr:l6):Prop:=
 ∃E',Eg base s sA sn sk x E' wr/\EI s tick M E' (fun _=>False)/\SameC E E'/\(∀i,i<j->∀ a,E'.at_[i]?=some a->tick<=a)/\zM M E'.P E'.at_<=zM M E.P E.at_/\Below base w wr/\(LV s tick E.L E.at_ E.trips E.S E.l (fun _=>False)->LV s tick E'.L E'.at_ E'.trips E'.S E'.l (fun _=>False))
theorem ArrI.next{base:Nat}{s:Sc}{sA:iX}{sn sk x:Nat}{tick M:Int}{E E1 E2:Egs}{w w1 w2:l6}{j:Nat}(h3:SameC E E1)(h4:∀ i,i<j->∀ a,E1.at_[i]?=some a->tick<=a)(h5:zM M E1.P E1.at_<=zM M E.P E.at_)(h6:Below base w w1)(h7:LV s tick E.L E.at_ E.trips E.S E.l (fun _=>False)->LV s tick E1.L E1.at_ E1.trips E1.S E1.l (fun _=>False))(hI1:EI s tick M E1 (fun _=>False))(hE:Eg base s sA sn sk x E2 w2)(hI:EI s tick M E2 (fun _=>False))(hR:AdvR E1 E2 j tick)(hA:AdvL s E1 E2 j tick)(hb:Below base w1 w2):ArrI base s sA sn sk x tick M E w (j+1) w2:=by
 refine⟨E2,hE,hI,h3.trans hR.same,fun i hi a ha=>?_,vD (hR.td M) h5,h6.trans hb,fun h=>hA.lv tick _ (by omega) (hI1.rng (h7 h) (fun h=>h) (fun e he _ _=>hI1.inv.low e he)) (h7 h)⟩;by_cases h0:i=j
 ·subst h0;have hl:i<E1.at_.length:=by
   have h1:=hI.inv.len;have h2:=hI1.inv.len;have h3:=(qd.1 ha).1;have h4:=hR.same.len;omega
  have:=hR.at_ _ (kD hl);rw[this]at ha;cases ha;omega
 ·rw[(hR.oth i h0).1]at ha;exact h4 i (by omega) a ha
def ArrJ(base:Nat)(s:Sc)(sA:iX)(sn sk x:Nat)(tick M:Int)(K:Nat)(E:Egs)(w wr:l6)(E':Egs):Prop:=
 Eg base s sA sn sk x E' wr/\EI s tick M E' (fun _=>False)/\E'.T=tick/\E'.l=E.l/\E'.L.length=E.L.length/\(∀a∈E'.at_,tick<=a)/\Below base w wr/\
  ∃pre,E.P=pre++E'.P/\E'.trips.length=E.trips.length+pre.length/\zM M E'.P E'.at_+pre.length<=zM M E.P E.at_/\Bd M E' (17*pre.length) K/\∀ last,LE0 s tick M last E->LV s tick E'.L E'.at_ E'.trips E'.S E'.l (fun _=>True)/\PV s last E'.P
def ArrK(base:Nat)(s:Sc)(sA:iX)(sn sk x:Nat)(tick M:Int)(K:Nat)(E:Egs)(w:l6)(j:Nat)(wr:l6):Prop:=
 ∃E',Eg base s sA sn sk x E' wr/\EI s tick M E' (fun _=>False)/\(∀a∈E'.at_,tick<=a)/\Bd M E' (16-j) K/\zM M E'.P E'.at_+1<=zM M E.P E.at_/\E'.trips.length+E'.P.length=E.trips.length+E.P.length/\E'.L.length=E.L.length/\Below base w wr/\∀ last,tick<last->LE0 s tick M last E->LV s tick E'.L E'.at_ E'.trips E'.S E'.l (fun k=>j<=k)/\PV s last E'.P/\FR s M tick E'.P E'.trips/\(E'.P≠[]->∃ e∈E'.l,e.k=0)
theorem Bd.same{M:Int}{E E':Egs}{r K:Nat}(h:Bd M E r K)(h1:E'.HL=E.HL)(h2:E'.nm=E.nm)(h3:E'.S=E.S)(h4:zM M E'.P E'.at_<=zM M E.P E.at_):Bd M E' r K:=by
 obtain⟨k1,k2,k3,k4⟩:=h;exact⟨by rw[h1];omega,by rw[h2];omega,by rw[h3];omega,by rw[h3];omega⟩
theorem UA(u:Int)(p:Pa)(P:List Pa)(at_:l8):zM u (p::P) at_=zM u P at_+1:=by unfold zM;simp;omega
theorem ArrJ.next{base:Nat}{s:Sc}{sA:iX}{sn sk x:Nat}{tick M:Int}{K:Nat}{E E2 E3:Egs}{w w1 w2:l6}{p:Pa}{P':List Pa}(hJ:ArrJ base s sA sn sk x tick M K E w w1 E2)(hP:E2.P=p::P')(hE:Eg base s sA sn sk x E3 w2)(hI:EI s tick M E3 (fun _=>False))(h1:E3.T=E2.T)(h2:E3.l=E2.l)(h3:E3.L=E2.L)(h4:E3.at_=E2.at_)(h5:E3.P=P')(h6:E3.trips.length=E2.trips.length+1)(h7:E3.HL=E2.HL)(h8:E3.nm=E2.nm)(h9:E3.S.nw<=E2.S.nw+1)(h10:E3.S.nc<=E2.S.nc+1)(h11:∀ T exv,0<=p.frm/\p.frm<s.fl/\0<=p.to_/\p.to_<s.fl/\p.frm≠p.to_->LV s T E2.L E2.at_ E2.trips E2.S E2.l exv->LV s T E2.L E2.at_ E3.trips E3.S E2.l (fun _=>True))(hb:Below base w1 w2):ArrJ base s sA sn sk x tick M K E w w2 E3:=by
 obtain⟨-,-,k1,k2,k3,k4,k5,pre,k6,k7,k8,k9,k10⟩:=hJ;have ht:zM M E2.P E2.at_=zM M E3.P E3.at_+1:=by rw[hP,h5,h4,UA]
 obtain⟨b1,b2,b3,b4⟩:=k9;refine⟨hE,hI,h1.trans k1,h2.trans k2,by rw[h3];exact k3,by rw[h4];exact k4,k5.trans hb,pre++[p],?_,?_,?_,?_,fun last hl=>?_⟩
 ·rw[k6,hP,h5];simp
 ·rw[h6,k7,kC];simp;omega
 ·rw[kC];simp;omega
 ·rw[kC];exact⟨by rw[h7];simp;omega,by rw[h8];simp;omega,by omega,by omega⟩
 ·obtain⟨a1,a2⟩:=k10 last hl;rw[hP]at a2;have hp:=a2 p (xz ..);rw[h2,h3,h4,h5];exact⟨h11 tick _ ⟨hp.1,hp.2.1,hp.2.2.1,hp.2.2.2.1,hp.2.2.2.2.1⟩ a1,fun q hq=>a2 q (yP _ hq)⟩
theorem ArrK.of_nil{base:Nat}{s:Sc}{sA:iX}{sn sk x:Nat}{tick M:Int}{K:Nat}{E E2:Egs}{w w1:l6}{p0:Pa}{P0:List Pa}(hs:s.ok)(hP0:E.P=p0::P0)(hJ:ArrJ base s sA sn sk x tick M K E w w1 E2)(hP:E2.P=[]):ArrK base s sA sn sk x tick M K E w 0 w1:=by
 obtain⟨k0,kI,k1,k2,k3,k4,k5,pre,k6,k7,k8,k9,k10⟩:=hJ;have h1:E.P.length=pre.length:=by rw[k6,hP];simp
 have h2:1<=pre.length:=by rw[<-h1,hP0];simp
 refine⟨E2,k0,kI,k4,k9.less (by omega),by omega,by rw[k7,hP,h1];simp,k3,k5,fun last ht hl=>?_⟩;obtain⟨a1,a2⟩:=k10 last hl;have hM:=hl.hM;exact⟨a1.mono fun k _ _=>vf _,a2,FR.end_ (last:=last) (by rw[hP,KN,Vt,k7,<-h1];exact hM) (gV hs) (by omega),fun h=>absurd hP h⟩
theorem ArrK.of_set{base:Nat}{s:Sc}{sA:iX}{sn sk x:Nat}{tick M:Int}{K:Nat}{E E2:Egs}{w w1 w2:l6}{p0 p:Pa}{P0 P':List Pa}(hP0:E.P=p0::P0)(hp0:p0.tick<=tick)(hJ:ArrJ base s sA sn sk x tick M K E w w1 E2)(hP:E2.P=p::P')(hp:¬ p.tick<=tick)(hS:bj x E2.F E2.g E2.nm E2.m E2.HL E2.l ⟨p.tick,0,0⟩ w1.drew w2):ArrK base s sA sn sk x tick M K E w 0 w2:=by
 obtain⟨k0,kI,k1,k2,k3,k4,k5,pre,k6,k7,k8,k9,k10⟩:=hJ;have h2:1<=pre.length:=by
  rcases ZW pre.length with h|h
  ·obtain rfl:=yj h;rw[hP0,hP]at k6;simp only[iA,List.cons.injEq]at k6;exact absurd (k6.1▸hp0) hp
  ·exact h
 obtain⟨g',b',n',L',h3,h4,h5,h6,h7⟩:=hS;obtain⟨l',h8,h9⟩:=un ⟨p.tick,0,0⟩ (wo E2.l 0 0) (JK k0.cs.ch.srt 0 0);have h0:=(k0.below fh.drew).cal (h3 l' h8 h9) h6 h7;have hI:=kI.inv;rw[hP]at hI;have hb:Bd M E2 17 K:=k9.less (by omega);obtain⟨b1,b2,b3,b4⟩:=hb;have hl:E.P.length=pre.length+E2.P.length:=by rw[k6,kC]
 refine⟨_,h0.1,⟨?_,kI.tk,kI.yl,kI.mx,kI.n,kI.m⟩,k4,⟨?_,?_,?_,?_⟩,?_,?_,k3,(k5.trans fh.drew).trans h0.2,fun last ht hl=>?_⟩
 ·show EInv s tick E2.T E2.P E2.L E2.at_ E2.trips E2.S.L l' _
  rw[hP];exact hI.next (by omega) h9
 ·show L'.length+(16-0)+18*zM M E2.P E2.at_<=K
  omega
 ·show n'+(16-0)+18*zM M E2.P E2.at_<=K
  omega
 ·show E2.S.nw+2*zM M E2.P E2.at_<=500000
  omega
 ·show E2.S.nc+2*zM M E2.P E2.at_<=500000
  omega
 ·show zM M E2.P E2.at_+1<=_
  omega
 ·show E2.trips.length+E2.P.length=_
  omega
 ·obtain⟨a1,a2⟩:=k10 last hl;exact⟨(a1.next h9).mono fun k _ _=>vf _,a2,fun h=>absurd (hP.symm.trans h) (by simp),fun _=>⟨_,h9.mem_iff.2 (xz ..),rfl⟩⟩
theorem ArrK.next{base:Nat}{s:Sc}{sA:iX}{sn sk x:Nat}{tick M:Int}{K:Nat}{E E1 E2:Egs}{w w1 w2:l6}{j:Nat}(hj:j<16)(h3:∀ a∈E1.at_,tick<=a)(h4:Bd M E1 (16-j) K)(h5:zM M E1.P E1.at_+1<=zM M E.P E.at_)(h6:E1.trips.length+E1.P.length=E.trips.length+E.P.length)(h7:E1.L.length=E.L.length)(h8:Below base w w1)(h9:∀ last,tick<last->LE0 s tick M last E->LV s tick E1.L E1.at_ E1.trips E1.S E1.l (fun k=>j<=k)/\PV s last E1.P/\FR s M tick E1.P E1.trips/\(E1.P≠[]->∃ e∈E1.l,e.k=0))(hE:Eg base s sA sn sk x E2 w2)(hI:EI s tick M E2 (fun k=>False/\k≠j))(hR:PlnR E1 E2 j)(hA:PlnL s E1 E2 j)(hb:Below base w1 w2):ArrK base s sA sn sk x tick M K E w (j+1) w2:=
 ⟨E2,hE,⟨hI.inv.ex_mono (fun _ _ h=>h.1),hI.tk,hI.yl,hI.mx,hI.n,hI.m⟩,by rw[hR.at_];exact h3,hR.bd (h4.less (by omega)),by rw[hR.P,hR.at_];exact h5,by rw[hR.P,hR.trips];exact h6,by rw[hR.L];exact h7,h8.trans hb,fun last ht hl=>by
  obtain⟨a1,a2,a3,a4⟩:=h9 last ht hl;exact⟨(hA.lv tick _ a1).mono fun k _ h=>by omega,by rw[hR.P];exact a2,by rw[hR.P,hR.trips];exact a3,fun h=>by
   obtain⟨e,e1,e2⟩:=a4 (by rw[<-hR.P];exact h);exact⟨e,hA.ar e e1 e2,e2⟩⟩⟩
theorem Xz(base:Nat)(s:Sc)(hs:s.ok)(sA:iX)(sn sk x:Nat)(tick M:Int)(K:Nat)(E:Egs)(w:l6)(H:Eg base s sA sn sk x E w)(hI:EI s tick M E (fun _=>False))(hk:∀ e∈E.l,e.k≠0)(t0:0<=tick)(tM:tick<=M)(p0:Pa)(P0:List Pa)(hP0:E.P=p0::P0)(hp0:p0.tick<=tick)(ht:Tab w)(hD:5<base)(hl:E.trips.length+E.P.length<=1000000)(hB:Bd M E 0 K)(hK:K<=1500000):
  Calls prog 182 #[.pointer (some ⟨x,0,none⟩),O J tick] w (cQ base s sA sn sk x tick M K E (fun last=>LE0 s tick M last E/\tick<last) w):=by
 have hn:=hI.n;have hM:=hI.m;have HH:=ze H;have HI:=ze hI;have HB:=ze hB;have ad:=ze hk;have HY:=ze hP0;have HT:=ze ht;have HL:=ze hl;obtain⟨A,c,a6⟩:=H.cvs;obtain⟨⟨x0,-,-,-,-⟩,-,-⟩:=H.cells;have w14:=(H.wd.bx 14 _ rfl).1;rw[a6]at w14;generalize ab:E.L.length=n at*;have hw:=ze ab;clear H hI hB hk hP0 ht hl a6 ab
 go_in
 go_wp2_with fail
 go_loopw [14] (fun k wr=>∃ j:Nat,k=O J j/\j<=n/\ArrI base s sA sn sk x tick M E w j wr) (fun k _=>n-(intOf k).toNat)
 case atStart=>exact⟨0,rfl,vf _,E,HH.o,HI.o,SameC.refl E,fun i hi=>absurd hi (by omega),fi,fh,fun h=>h⟩
 case round=>
  obtain⟨j,rfl,hj,E1,hE,hI,hS,hA,hp,hb,a9⟩:=hrel;have HN:=ze a9;clear a9;have HE:=ze hE;have h6:=ze hI;have HS:=ze hS;have HA:=ze hA;have hf:=ze hp;have HM:=ze hb;have h5:E1.L.length=n:=by rw[hS.len];exact hw.o
  have h0:=ze h5;have j0:(0:Int)<=(j:Int):=by omega
  clear hE hI hS hA hp hb h5;by_cases a8:j<n
  ·have j1:(j:Int)<(n:Int):=by omega
   have HG:=ze (xj base s hs sA sn sk x tick M (fun _=>False) E1 wr HE.o h6.o j (by have:=h0.o;omega) tick t0 tM (fun z a h1 h2=>h6.o.can h1 h2 (fun h=>h) (fun e he _ _=>h6.o.inv.low e he)) (fun e he _ _=>h6.o.inv.low e he));clear x0 w14;go_wp2_with(go_at_call 141;refine HG.o.mono ?_;rintro r w1 ⟨rfl,hm,E2,H2,a0,hR,HZ⟩;have HX:=ze (ArrI.next HS.o HA.o hf.o HM.o HN.o h6.o H2 a0 hR HZ hm);clear hm H2 a0 hR HZ);go_roundw
   case rel=>exact⟨j+1,by go_num,by omega,HX.o⟩
   case measure=>simp[intOf];omega
  ·obtain rfl:n=j:=by omega
   have j1:¬ ((n:Int)<(n:Int)):=by omega
   obtain⟨W1,af⟩:∃ W1,W1=wr:=⟨_,rfl⟩;subst af;have H0:∀ a∈E1.at_,tick<=a:=fun a ha=>by
    obtain⟨i,hi⟩:=Z5 ha;exact HA.o i (by have h1:=(qd.1 hi).1;have h2:=h6.o.inv.len;have h3:=h0.o;omega) a hi
   have hQ:=ze H0;clear x0 w14 H0;obtain⟨⟨x0,-,-,-,-⟩,-,-⟩:=HE.o.cells;have w16:=(HE.o.wd.bx 16 _ rfl).1;have f16:=(HE.o.wd.bx 16 _ rfl).2;go_wp2_with fail;obtain⟨tg2,H2,a5⟩:=HE.o.tick tick;have HW:=ze H2;have HR:=ze (HM.o.trans a5);clear x0 w16 f16 H2 a5
   go_loopw [] (fun wr=>∃ E',ArrJ base s sA sn sk x tick M K E w wr E') (fun wr=>pLen x wr)
   case atStart=>
    have hS:=HS.o;refine⟨_,HW.o,⟨h6.o.inv.time h6.o.inv.tT (Vu _),h6.o.tk,h6.o.yl,h6.o.mx,h6.o.n,h6.o.m⟩,rfl,hS.l,hS.len,hQ.o,HR.o,[],?_,?_,?_,?_,fun last hl=>⟨(HN.o hl.lv).all,by show PV s last E1.P;rw[hS.P];exact hl.pv⟩⟩
    ·show E.P=[]++E1.P
     rw[hS.P];rfl
    ·show E1.trips.length=_
     rw[hS.trips];rfl
    ·show zM M E1.P E1.at_+0<=_
     exact hf.o
    ·exact HB.o.same hS.HL hS.nm hS.S hf.o
   case round=>
    obtain⟨E2,hJ⟩:=hrel;have HJ:=ze hJ;obtain⟨hE,-⟩:=hJ;obtain⟨⟨x0,x1,-,-,-⟩,fx,-⟩:=hE.cells;have ho:=hE.pl;have hu:=ze hE;clear HE HW HM HR hf h6 HS HA hQ h0 HN;rcases hC:E2.P with _|⟨p,P'⟩
    ·have h8:=ze hC;rw[hC]at ho;have hG:E2.pn=0:=by simpa using ho.1.symm
     rw[hG]at x1;clear hC ho hG hE;obtain⟨W3,HO⟩:∃ W3,W3=wr:=⟨_,rfl⟩;subst HO;have hW:=ze (ArrK.of_nil hs HY.o HJ.o h8.o);clear x0 fx hu HJ h8;go_upto_region 11 with(fail);clear x1;obtain⟨E3,hg,-,-,-,-,-,H6,-,-⟩:=hW.o;obtain⟨A3,c3,hd⟩:=hg.cvs;obtain⟨⟨x0,-,-,-,-⟩,-,-⟩:=hg.cells;have w14:=(hg.wd.bx 14 _ rfl).1;rw[hd,H6,hw.o]at w14;clear hg H6 hd;go_wp2_with fail
     go_loopw [90] (fun k wr=>∃ j:Nat,k=O J j/\j<=n/\ArrK base s sA sn sk x tick M K E w j wr) (fun k _=>n-(intOf k).toNat)
     case atStart=>exact⟨0,rfl,vf _,hW.o⟩
     case round=>
      obtain⟨j,rfl,hj,E4,hE,hI,hA,H1,hp,Ha,h5,hb,H9⟩:=hrel;have hX:=ze H9;clear H9;have hU:=ze hE;have hV:=ze hI;have hN:=ze hA;have hq:=ze H1;have hf:=ze hp;have hz:=ze Ha;have h0:=ze h5;have hT:=ze hb;have j0:(0:Int)<=(j:Int):=by omega
      clear hE hI hA H1 hp Ha h5 hb;by_cases a8:j<n
      ·have j1:(j:Int)<(n:Int):=by omega
       have hy:=ze (xl base s hs sA sn sk x tick M (fun _=>False) E4 wr hU.o hV.o j (by have h1:=h0.o;have h2:=hw.o;omega) (fun a ha=>hN.o a (jx ha)) hq.o hK);clear x0 w14;go_wp2_with(go_at_call 218;refine hy.o.mono ?_;rintro r w1 ⟨rfl,hm,E5,H3,H4,hR,H7⟩;have HX:=ze (ArrK.next (by omega) hN.o hq.o hf.o hz.o h0.o hT.o hX.o H3 H4 hR H7 hm);clear hm H3 H4 hR H7);go_roundw
       case rel=>exact⟨j+1,by go_num,by omega,HX.o⟩
       case measure=>simp[intOf];omega
      ·have j1:¬ ((j:Int)<(n:Int)):=by omega
       clear x0 w14;go_wp2_with fail;go_end0;exact⟨rfl,hT.o,E4,hU.o,hV.o,hq.o.less (vf _),hf.o,hz.o,h0.o,fun last hl=>by
        obtain⟨a1,a2,a3,a4⟩:=hX.o last hl.2 hl.1;have hv:=a1.mono (exv':=fun _=>False) fun k hk h=>by have h1:=h0.o;have h2:=hw.o;omega
        exact⟨⟨hv,a2,a3.cl hs hv,by rw[hz.o];exact hl.1.hM⟩,a4⟩⟩
    ·have h8:=ze hC;rw[hC]at ho;have HQ:=hE.pe;rw[hC]at HQ;obtain⟨B,off,hA,am,h4⟩:=HQ.2 (by have:=ho.1;simp at this;omega);have q0:wr.cell? ⟨B,off,none⟩=some (O J p.id):=h4 0 _ rfl;have q1:wr.cell? ⟨B,off+1,none⟩=some (O J p.tick):=h4 1 _ rfl;have q2:wr.cell? ⟨B,off+2,none⟩=some (O J p.frm):=h4 2 _ rfl;have q3:wr.cell? ⟨B,off+3,none⟩=some (O J p.to_):=h4 3 _ rfl;have hG:E2.pn=P'.length+1:=by simpa using ho.1.symm
     rw[hG,hA]at x1;have ak:P'.length+1<=E2.pc:=by have:=ho.2;omega
     have Hj:=ze hA;have Hq:=ze hG;clear hC ho HQ hA h4 hG hE;by_cases hL:p.tick<=tick
     ·have d0:decide (p.tick<=tick)=true:=by simpa using hL
      have Hs:=ze hL;clear hL;have hO:=ze (show Calls prog 142 #[.pointer (some ⟨E2.wb,0,none⟩),.agg #[O J p.id,O J p.tick,O J p.frm,O J p.to_]] wr.drew (dD base s sA sn sk x tick M (fun _=>False) E2 p P' wr.drew)from by
       obtain⟨-,k0,k1,k2,k3,k4,k5,pre,k6,k7,k8,k9,-⟩:=HJ.o;exact bw hs (hu.o.below fh.drew) k0 h8.o (fun e he=>ad.o e (by rw[<-k2];exact he)) (by rw[k1];exact Hs.o) ((HT.o.below k5 hD).below fh.drew (kK hD hu.o.bs)) hD (by have h1:=HL.o;have h2:=congrArg List.length k6;rw[kC]at h2;omega) k9 hK)
      have a7:Below base wr wr.drew:=fh.drew;have HU:=ze a7;clear a7;go_upto_region 7 with(fail)
      go_cut [] (fun wx=>∃ S' tv' trips' t',Eg base s sA sn sk x {E2 with S:=S',tv:=tv',trips:=trips',tag:=t'} wx/\EI s tick M {E2 with S:=S',tv:=tv',trips:=trips',tag:=t',P:=P'} (fun _=>False)/\S'.nw<=E2.S.nw+1/\S'.nc<=E2.S.nc+1/\trips'.length=E2.trips.length+1/\(∀T exv,0<=p.frm/\p.frm<s.fl/\0<=p.to_/\p.to_<s.fl/\p.frm≠p.to_->LV s T E2.L E2.at_ E2.trips E2.S E2.l exv->LV s T E2.L E2.at_ trips' S' E2.l (fun _=>True))/\Below base wr wx)
      case first=>
       go_region_with (go_at_call 142;(with_reducible refine hO.o.mono ?_);rintro r w7 ⟨rfl,H8,S',tv',trips',t',hF,H5,Hw,HD,HF,hZ⟩;have Hc:=ze hZ;clear hZ;have Hk:=ze H8;have Ho:=ze hF;have h7:=ze H5;clear H8 hF H5 x0 x1 q0 q1 q2 q3)
       all_goals(
        go_wp2_with fail
        go_meet
        exact⟨S',tv',trips',t',Ho.o,h7.o,Hw,HD,HF,Hc.o,HU.o.trans Hk.o⟩)
      case rest=>
      obtain⟨S',tv',trips',t',hF,H5,Hw,HD,HF,hZ,H8⟩:=hcut;have Hc:=ze hZ;clear hZ;obtain⟨W7,ai⟩:∃ W7,W7=wc:=⟨_,rfl⟩;subst ai;clear x0 x1 q0 q1 q2 q3 fx hO HU;have Ho:=ze hF;have h7:=ze H5;have Hk:=ze H8;obtain⟨⟨x0,x1,-,-,-⟩,fx,-⟩:=hF.cells;dsimp only at x0 x1;rw[Hq.o,Hj.o]at x1;clear hF H5 H8 x0;by_cases hc:E2.pc=1
      ·obtain rfl:P'=[]:=yj (by omega);have h9:=Ho.o.next h8.o Hj.o;dsimp only at h9;simp only[hc,Hq.o,if_true,KN,Wa,Nat.add_sub_cancel,Nat.sub_self]at h9;have hr:=ze h9;rw[hc,KN,Wa]at x1;have HC:=ze hc;clear h9 hc ak;go_wp2_with fail;go_roundw
       case rel=>exact⟨_,HJ.o.next h8.o hr.o.1 ⟨h7.o.inv,h7.o.tk,h7.o.yl,h7.o.mx,h7.o.n,h7.o.m⟩ rfl rfl rfl rfl rfl HF rfl rfl Hw HD Hc.o (Hk.o.trans hr.o.2)⟩
       case measure=>rw[hr.o.1.pLen,hu.o.pLen,h8.o];simp
      ·have h9:=Ho.o.next h8.o Hj.o;dsimp only at h9;simp only[if_neg hc,Hq.o,Nat.add_sub_cancel]at h9;have hr:=ze h9;have ao:¬ 1=E2.pc:=fun e=>hc e.symm
       clear h9;go_wp2_with fail;go_roundw
       case rel=>exact⟨_,HJ.o.next h8.o hr.o.1 ⟨h7.o.inv,h7.o.tk,h7.o.yl,h7.o.mx,h7.o.n,h7.o.m⟩ rfl rfl rfl rfl rfl HF rfl rfl Hw HD Hc.o (Hk.o.trans hr.o.2)⟩
       case measure=>rw[hr.o.1.pLen,hu.o.pLen,h8.o];simp
     ·have d0:decide (p.tick<=tick)=false:=by simpa using hL
      have Hs:=ze hL;have al:=HJ.o.2.1.inv.ps.ok p (by rw[h8.o];exact xz ..);have ac:=ze (HJ.o.2.1);obtain⟨W3,HO⟩:∃ W3,W3=wr:=⟨_,rfl⟩;subst HO;have hY:=ze (show Calls prog 139 #[.pointer (some ⟨x,2,none⟩),O J 0,O J 0,O J p.tick] W3.drew fun r w'=>r=.returned (.tuple #[])/\bj x E2.F E2.g E2.nm E2.m E2.HL E2.l ⟨p.tick,0,0⟩ W3.drew w' from by
       obtain⟨-,k0,k1,k2,k3,k4,k5,pre,k6,k7,k8,k9,-⟩:=HJ.o;have h1:=k9.hl;have h2:=k9.nm;exact Qr (F:=E2.F) x E2.g E2.nm E2.HL.length E2.m E2.HL E2.l ⟨p.tick,0,0⟩ W3.drew (hu.o.cs.below fh.drew) rfl (by omega) (by omega) ⟨zQ (by show(-1000000000:Int)<=p.tick;omega) (by show p.tick<=(1000000000:Int);omega),zQ (show(-1000000000:Int)<=0 by decide) (show(0:Int)<=1000000000 by decide),zQ (show(-1000000000:Int)<=0 by decide) (show(0:Int)<=1000000000 by decide)⟩)
      clear hL al ac;go_upto_region 10 with(fail)
      go_cut [] (fun wx=>ArrK base s sA sn sk x tick M K E w 0 wx)
      case first=>
       go_region_with (go_at_call 139;(with_reducible refine hY.o.mono ?_);rintro r w5 ⟨rfl,hP⟩;have HP:=ze hP;clear hP x0 x1 q0 q1 q2 q3)
       all_goals(
        go_wp2_with fail
        go_meet
        exact ArrK.of_set HY.o hp0 HJ.o h8.o (by have:=Hs.o;omega) HP.o)
      case rest=>
      have hW:=ze hcut;clear hcut x0 x1 q0 q1 q2 q3 fx hY hu HJ h8 Hj Hq Hs d0;obtain⟨E3,hg,-,-,-,-,-,H6,-,-⟩:=hW.o;obtain⟨A3,c3,hd⟩:=hg.cvs;obtain⟨⟨x0,-,-,-,-⟩,-,-⟩:=hg.cells;have w14:=(hg.wd.bx 14 _ rfl).1;rw[hd,H6,hw.o]at w14;clear hg H6 hd;go_wp2_with fail
      go_loopw [90] (fun k wr=>∃ j:Nat,k=O J j/\j<=n/\ArrK base s sA sn sk x tick M K E w j wr) (fun k _=>n-(intOf k).toNat)
      case atStart=>exact⟨0,rfl,vf _,hW.o⟩
      case round=>
       obtain⟨j,rfl,hj,E4,hE,hI,hA,H1,hp,Ha,h5,hb,H9⟩:=hrel;have hX:=ze H9;clear H9;have hU:=ze hE;have hV:=ze hI;have hN:=ze hA;have hq:=ze H1;have hf:=ze hp;have hz:=ze Ha;have h0:=ze h5;have hT:=ze hb;have j0:(0:Int)<=(j:Int):=by omega
       clear hE hI hA H1 hp Ha h5 hb;by_cases a8:j<n
       ·have j1:(j:Int)<(n:Int):=by omega
        have hy:=ze (xl base s hs sA sn sk x tick M (fun _=>False) E4 wr hU.o hV.o j (by have h1:=h0.o;have h2:=hw.o;omega) (fun a ha=>hN.o a (jx ha)) hq.o hK);clear x0 w14;go_wp2_with(go_at_call 218;refine hy.o.mono ?_;rintro r w1 ⟨rfl,hm,E5,H3,H4,hR,H7⟩;have HX:=ze (ArrK.next (by omega) hN.o hq.o hf.o hz.o h0.o hT.o hX.o H3 H4 hR H7 hm);clear hm H3 H4 hR H7);go_roundw
        case rel=>exact⟨j+1,by go_num,by omega,HX.o⟩
        case measure=>simp[intOf];omega
       ·have j1:¬ ((j:Int)<(n:Int)):=by omega
        clear x0 w14;go_wp2_with fail;go_end0;exact⟨rfl,hT.o,E4,hU.o,hV.o,hq.o.less (vf _),hf.o,hz.o,h0.o,fun last hl=>by
         obtain⟨a1,a2,a3,a4⟩:=hX.o last hl.2 hl.1;have hv:=a1.mono (exv':=fun _=>False) fun k hk h=>by have h1:=h0.o;have h2:=hw.o;omega
         exact⟨⟨hv,a2,a3.cl hs hv,by rw[hz.o];exact hl.1.hM⟩,a4⟩⟩
structure EvJ(base:Nat)(s:Sc)(sA:iX)(sn sk x:Nat)(tick M:Int)(K:Nat)(E:Egs)(w:l6)(i:Nat)(gone:Bool)(j:Nat)(E':Egs)(wr:l6):Prop where
 eg:Eg base s sA sn sk x E' wr
 ei:EI s tick M E' (fun k=>k=i/\j<=i)
 bd:Bd M E' (16-j) K
 len:E'.L.length=E.L.length
 td:zM M E'.P E'.at_+1<=zM M E.P E.at_
 tr:E'.trips.length+E'.P.length=E.trips.length+E.P.length
 ai:∀ a,E'.at_[i]?=some a->tick<=a
 be:∀ f∈E'.l,f.k=1->(j:Int)<=f.i->f.i<i->tick+1<=f.t
 b:Below base w wr
 lx:∀ last,LEe s tick M last E i->LV s tick E'.L E'.at_ E'.trips E'.S E'.l (fun k=>j<=k/\(gone=true\/k=i))/\PV s last E'.P/\(gone=true->FR s M tick E'.P E'.trips)/\(gone=false->CL s M E'.P E'.L E'.at_ E'.trips E'.S)/\(E'.P≠[]->∃ e∈E'.l,e.k=0)
section
variable{base:Nat}{s:Sc}{sA:iX}{sn sk x:Nat}{tick M:Int}{K:Nat}{E E1 E2:Egs}{w w1 w2:l6}{i j:Nat}{b:Int}{gone:Bool}
theorem EvJ.skip(h:EvJ base s sA sn sk x tick M K E w i gone j E1 w1)(hj:j≠i)(hg:gone=false):EvJ base s sA sn sk x tick M K E w i gone (j+1) E1 w1:=
 ⟨h.eg,⟨h.ei.inv.ex_mono (fun k _ hk=>⟨hk.1,by omega⟩),h.ei.tk,h.ei.yl,h.ei.mx,h.ei.n,h.ei.m⟩,h.bd.less (by omega),h.len,h.td,h.tr,h.ai,fun f hf h1 h2 h3=>h.be f hf h1 (by omega) h3,h.b,fun last hl=>by
  obtain⟨a1,a2,a3,a4,a5⟩:=h.lx last hl;exact⟨a1.mono fun k _ hk=>⟨by rcases hk.2 with h9|h9;(rw[hg]at h9;cases h9);(have:=hk.1;omega),hk.2⟩,a2,a3,a4,a5⟩⟩
theorem EvJ.adv(h:EvJ base s sA sn sk x tick M K E w i gone j E1 w1)(hj:j≠i)(hE:Eg base s sA sn sk x E2 w2)(hI:EI s tick M E2 (fun k=>k=i/\j<=i))(hR:AdvR E1 E2 j b)(hA:AdvL s E1 E2 j b)(hg:gone=true)(hbt:b<=tick+1)(hee:∀ e∈E1.l,e.k=1->e.i=j->b<=e.t)(hb:Below base w1 w2):EvJ base s sA sn sk x tick M K E w i gone j E2 w2:=
 ⟨hE,hI,h.bd.same hR.same.HL hR.same.nm hR.same.S (hR.td M),hR.same.len.trans h.len,vD (Nat.succ_le_succ (hR.td M)) h.td,by rw[hR.same.trips,hR.same.P];exact h.tr,fun a ha=>h.ai a (by rw[<-(hR.oth i (Ne.symm hj)).1];exact ha),fun f hf=>h.be f (by rw[<-hR.same.l];exact hf),h.b.trans hb,fun last hl=>by
  obtain⟨a1,a2,a3,a4,a5⟩:=h.lx last hl;exact⟨hA.lv tick _ hbt (h.ei.rng a1 (fun h=>hj h.1) hee) a1,by rw[hR.same.P];exact a2,fun _=>by rw[hR.same.P,hR.same.trips];exact a3 hg,fun h=>(by rw[hg]at h;cases h),by rw[hR.same.P,hR.same.l];exact a5⟩⟩
theorem EvJ.pln(h:EvJ base s sA sn sk x tick M K E w i gone j E1 w1)(hj16:j<16)(hE:Eg base s sA sn sk x E2 w2)(hI:EI s tick M E2 (fun k=>(k=i/\j<=i)/\k≠j))(hR:PlnR E1 E2 j)(hA:PlnL s E1 E2 j)(hb:Below base w1 w2):EvJ base s sA sn sk x tick M K E w i gone (j+1) E2 w2:=
 ⟨hE,⟨hI.inv.ex_mono (fun k _ hk=>⟨hk.1.1,by have:=hk.1;have:=hk.2;omega⟩),hI.tk,hI.yl,hI.mx,hI.n,hI.m⟩,hR.bd (h.bd.less (by omega)),by rw[hR.L];exact h.len,by rw[hR.P,hR.at_];exact h.td,by rw[hR.P,hR.trips];exact h.tr,by rw[hR.at_];exact h.ai,fun f hf h1 h2 h3=>by
  rcases hR.sub f hf with⟨-,h4⟩|h4
  ·omega
  ·exact h.be f h4 h1 (by omega) h3,h.b.trans hb,fun last hl=>by
  obtain⟨a1,a2,a3,a4,a5⟩:=h.lx last hl;exact⟨(hA.lv tick _ a1).mono fun k _ hk=>⟨by have:=hk.1.1;have:=hk.2;omega,hk.1.2⟩,by rw[hR.P];exact a2,fun h=>by rw[hR.P,hR.trips];exact a3 h,fun h=>by rw[hR.P,hR.L,hR.at_,hR.trips,hR.S];exact a4 h,fun h=>by
   obtain⟨e,e1,e2⟩:=a5 (by rw[<-hR.P];exact h);exact⟨e,hA.ar e e1 e2,e2⟩⟩⟩
end
theorem UC(base:Nat)(s:Sc)(hs:s.ok)(sA:iX)(sn sk x:Nat)(tick M:Int)(K:Nat)(E:Egs)(w:l6)(i:Nat)(H:Eg base s sA sn sk x E w)(hI:EI s tick M E (fun k=>k=i))(hi:i<E.L.length)(hc:∀ z a,E.L[i]?=some z->E.at_[i]?=some a->CarT s.gap z.c a tick)(hbe:∀ f∈E.l,f.k=1->f.i≠i/\(f.i<i->tick+1<=f.t))(t0:0<=tick)(tM:tick+1<=M)(hl:E.trips.length<=1000000)(hB:Bd M E 0 K)(hK:K<=1500000):
  Calls prog 183 #[.pointer (some ⟨x,0,none⟩),O J (i:Int),O J tick] w (cQ base s sA sn sk x tick M K E (fun last=>LEe s tick M last E i) w):=by
 have hn:=hI.n;have hM:=hI.m;have HI:=ze hI;have HB:=ze hB;have HL:=ze hl;have HC:=ze hc;have Hq:=ze hbe;have i0:(0:Int)<=(i:Int):=by omega
 have h5:=ze (xj base s hs sA sn sk x tick M (fun k=>k=i) E w H hI i hi tick t0 (by omega) (fun z a h1 h2 _=>⟨tick,hc z a h1 h2,Vu _⟩) (fun e he h1 h2=>absurd h2 (hbe e he h1).1));clear hI hB hl hc hbe H;generalize cy:E.L.length=n at*;have hV:=ze cy;clear cy
 go_in
 go_upto_region 1 with(go_at_call 141;refine h5.o.mono ?_;rintro r w1 ⟨rfl,ca,E1,bM,c6,c8,H3⟩;have hX:=ze H3;clear H3;have hT:=ze bM;have hF:=ze c6;have h6:=ze c8;have b6:=ze ca;clear bM c6 c8 ca);obtain⟨wb,h,S,cv,tv,L,trips,T,F,g,m,nm,bo,l,pA,pn,pc,P,ab,at_,yb,yn,yc,Y,G,evn,tag⟩:=E1;have hA:=h6.o.same;have c7:L.length=n:=hA.len.trans hV.o;have cs:i<L.length:=by omega
 obtain⟨z,a,bu,hz,ha,a9,cc,cp,Hw,cV⟩:=hF.o.at_ cs;dsimp only at hz ha a9;have c9:a=tick:=by
  obtain⟨z0,a0,bu0,HE,H4,-,-,-,-,-⟩:=HI.o.at_ (by rw[hV.o];exact hi);have h1:=h6.o.at_ a0 H4;have h2:=(HC.o z0 a0 HE H4).le;dsimp only at h1;rw[ha]at h1;have:=ve h1;omega
 obtain⟨gc,ck,cn,-,-,cj,-,-⟩:=hT.o.wd.cr.at_ (show 0<L.length by omega);dsimp only at cn cj;subst cn;have a6:L.length<=16:=by omega
 have Ho:=ze c9;have d3:=ze c7;have HZ:=ze hz;have HA:=ze ha;have HG:=ze a9;have b8:=ze cc;have HH:=ze cp;clear c9 c7 hz ha a9 cc cp Hw cV hA;obtain⟨tg2,hG,H5⟩:=hT.o.tick tick;have hY:=ze (b6.o.trans H5);have hU:=ze hG;obtain⟨⟨x0,-,-,-,-⟩,-,-⟩:=hT.o.cells;have w16:=(hT.o.wd.bx 16 _ rfl).1;have f16:=(hT.o.wd.bx 16 _ rfl).2;dsimp only at x0 w16 f16;clear hG H5 h5;go_upto_region 2 with(fail);refine kx (W:=w1.setCell ⟨wb,16,none⟩ (O J tick)) (fun V=>Eg base s sA sn sk x ⟨wb,h,S,.slice (some ⟨gc,0,none⟩) L.length ck,tv,L,trips,tick,F,g,m,nm,bo,l,pA,pn,pc,P,ab,at_,yb,yn,yc,Y,G,evn,tg2⟩ V/\Below base w V) ⟨hU.o,hY.o⟩ ?_;clear hU hY x0 w16 f16;rintro W2 ⟨hG,H5⟩;have hU:=ze hG;have hY:=ze H5;have h8:=ze (hF.o.inv.time hF.o.inv.tT (Vu _));have HF:=ze (HB.o.same h6.o.same.HL h6.o.same.nm h6.o.same.S (h6.o.td M));have bA:=ze (show Calls prog 143 #[.pointer (some ⟨wb,0,none⟩),O J (i:Int)] W2 (Uw base s sA sn sk wb h W2 S (.slice (some ⟨gc,0,none⟩) L.length ck) tv L trips tick i z)from by
  have hv:=h8.o.inv;have h1:=HF.o.nw;have h2:=h6.o.same.trips;dsimp only at h1 h2 hv;have d5:trips.length<=1000000:=by rw[h2];exact HL.o
  have cz:z.l∈L.map (·.l):=Vl.2 ⟨z,jx HZ.o,rfl⟩;exact GM base s hs sA sn sk wb h W2 S gc L.length ck tv L trips tick i z hG.wd rfl cj (by omega) HZ.o (hG.wd.oks hs h8.o.car z (jx HZ.o)) ⟨HH.o.m0,HH.o.m1⟩ HH.o.lf (by omega) (fun r hr=>⟨(hv.ri _ cz r hr).1,(hv.ri _ cz r hr).2.1⟩) (fun k y hy=>⟨(hv.wt k y hy).1,(hv.wt k y hy).2.1⟩) (by omega))
 obtain⟨⟨x0,-,-,-,-⟩,-,-⟩:=hU.o.cells;dsimp only at x0;clear hG H5;go_upto_region 3 with(go_at_call 143;(with_reducible refine bA.o.mono ?_);rintro r w3 ⟨gone,y,S3,trips3,rfl,hN,HO,HT,ch,hr⟩;have bc:=ze ch;clear ch;have HN:=ze hN;have HR:=ze hr;have b0:=ze HO;have b5:=ze HT;clear hN hr HO HT x0);have HU:=hU.o.world HN.o;have ho:=ze HU.1;have b7:=ze (hY.o.trans HU.2);have hp:(L.set i y)[i]?=some y:=by rw[vt,if_pos rfl,if_pos cs]
 have hR:(L.set i y).length=L.length:=ye ..;have hO:=h8.o.step hs HZ.o rfl (fun e he hx=>(Hq.o e (by rw[<-h6.o.same.l];exact he) hx.1).1 hx.2) HR.o;have hZ:=ze hO;have aA:=hO.car y (jx hp);have ad:=hs.gap;have p0:=aA.p0;have p1:=aA.p1;have hD:=ze ho.o.wd.cr;have cA:=ze hp;obtain⟨⟨x0,-,x4,x5,-⟩,-,-⟩:=ho.o.cells;have w14:=(ho.o.wd.bx 14 _ rfl).1;dsimp only at x0 x4 x5 w14;obtain⟨r0,-⟩:=hD.o.elem_cell zh hR hp (show 0<6 by omega) rfl;obtain⟨r1,-⟩:=hD.o.elem_cell zh hR hp (show 1<6 by omega) rfl;obtain⟨r2,-⟩:=hD.o.elem_cell zh hR hp (show 2<6 by omega) rfl;obtain⟨r3,-⟩:=hD.o.elem_cell zh hR hp (show 3<6 by omega) rfl;obtain⟨r4,-⟩:=hD.o.elem_cell zh hR hp (show 4<6 by omega) rfl;obtain⟨r5,-⟩:=hD.o.elem_cell zh hR hp (show 5<6 by omega) rfl;have r0:w3.cell? ⟨gc,i*6,none⟩=some (O J y.c.pos):=r0;have d0:i<yn:=by have h1:=ho.o.yl.1;have h2:=(qd.1 HG.o).1;dsimp only at h1;omega
 have ar:=ho.o.yl.2;dsimp only at ar;have cx:i<at_.length:=(qd.1 HA.o).1;obtain⟨lg,-,Hk⟩:=ho.o.wy i bu HG.o;have H2:=ze Hk;have H7:bu.t+1<=10000000:=by have h1:=b8.o;have h2:=Ho.o;omega
 have q0: -100000<=y.c.pos:=by omega
 have q1:y.c.pos<=100000:=by omega
 have hW:=ze (fun d W(hb:Below w3.heap.size w3 W)=>Jt base yb yn yc Y i bu lg y.c.pos 0 1 d W (H2.o.below hb) q0 q1 (by omega) (by omega) (by omega) (by omega) H7);clear HU hp hR hO aA ad p0 p1 Hk H7 bA;have i1:(i:Int)<(L.length:Int):=by omega
 have i2:(i:Int)<(yn:Int):=by omega
 have i3:(i:Int)<(at_.length:Int):=by omega
 have bm:=ze (show∀last,LEe s tick M last E i->LV s tick (L.set i y) (at_.set i (tick+1)) trips3 S3 l (fun k=>gone=true\/k=i)/\PV s last P/\(gone=true->FR s M tick P trips3)/\CL s M P (L.set i y) (at_.set i (tick+1)) trips3 S3/\(P≠[]->∃ e∈l,e.k=0)from fun last hl=>by
  obtain⟨z0,a0,bu0,HE,Hw,-,-,-,-,-⟩:=HI.o.at_ (by rw[hV.o];exact hi);exact hl.start hs hX.o h6.o.same HE Hw (HC.o z0 a0 HE Hw).le HZ.o h8.o.inv t0 bc.o HR.o ho.o.wd.hl.non (fun e he hx=>(Hq.o e (by rw[<-h6.o.same.l];exact he) hx.1).1 hx.2))
 obtain⟨c,A,rn,rk,rl⟩:=y;dsimp only at r0 r1 r2 r3 r4 r5 q0 q1;go_upto_region 4 with(fail);refine zq (w:=w3) (fun V=>Bx V w3.heap.size (c.lv (.slice A rn rk))/\w3.heap.size<V.heap.size) ⟨Bx.new w3 (c.lv (.slice A rn rk)) 265,by simp⟩ ((Below.refl w3.heap.size w3).alloc fi _) ?_;rintro V ⟨hq,d9⟩ a8;have HQ:=ze hq;have b9:=ze a8;have x5v:=zf a8 x5;clear hq a8 r0 r1 r2 r3 r4 r5 x0 x4 x5 w14;obtain⟨⟨c0,c1,c2,c3,c4,c5⟩,-⟩:=HQ.o.o6;have bl:=ze (fun W=>Kc c A rn rk W)
 go_cut [] (fun wx=>∃(b':Bu)(l':List Lg),WayP w3 base yb yn yc Y i bu 1 wx b' l')
 case first=>
  go_region_with (first
   |(go_at_call 145;(with_reducible refine(bl.o _).mono ?_);rintro r w4 ⟨⟨d,rfl⟩,cb⟩;have hS:=ze (show Below V.heap.size V w4 from(Below.refl V.heap.size V).drew.trans cb);have bb:=ze (b9.o.trans (hS.o.mono (by omega)));have x5b:=zf hS.o x5v;have c0b:=zf hS.o c0;clear cb)
   |(go_at_call 144;(with_reducible refine(hW.o d _ bb.o).mono ?_);rintro r w5 ⟨rfl,b',l',hP⟩;have HP:=ze hP;clear hP))
  all_goals(
   go_wp2_with fail
   go_meet
   exact⟨b',l',WayP.from_ bb.o HP.o⟩)
 case rest=>
 obtain⟨b',l',hP⟩:=hcut;obtain⟨W4,cB⟩:∃ W4,W4=wc:=⟨_,rfl⟩;subst cB;have HW:=ho.o.way HG.o hP;have Hs:=ze HW.1;have hS:=ze (b7.o.trans HW.2);have bs:=ze hP.t;obtain⟨⟨-,-,x4,-,-⟩,-,-⟩:=Hs.o.cells;obtain⟨a4,-,ac,af⟩:=Hs.o.ao.int_at rfl cx;dsimp only at x4 ac af;have t1:tick+1<=1000001:=by omega
 clear HW hP c0 c1 c2 c3 c4 c5 x5v HQ b9 hW bl;have HY:=Hs.o.through i (tick+1);have HJ:=ze (show EvJ base s sA sn sk x tick M K E w i gone 0 _ (W4.setCell ⟨ab,i,none⟩ (O J (tick+1)))from by
  have Hj:=h6.o.same;have d1:=h6.o.td M;have d8:=Uy (P:=P) HA.o (show a<tick+1 by have:=Ho.o;omega) tM;obtain⟨b1,b2,b3,b4⟩:=HF.o;have HO:=b0.o;have HT:=b5.o;refine⟨HY.1,⟨?_,?_,?_,?_,?_,hM⟩,⟨?_,?_,?_,?_⟩,?_,?_,?_,?_,?_,hS.o.trans HY.2,fun last hl=>?_⟩
  ·exact(hZ.o.tick HA.o (by have:=Ho.o;omega) (fun e he hx=>(Hq.o e (by rw[<-Hj.l];exact he) hx.1).1 hx.2)).ex_mono (fun k _ h=>⟨h,vf _⟩)
  ·intro k bk ak HD Hc;dsimp only at HD Hc;rcases zx HD with⟨rfl,rfl,-⟩|⟨am,HD⟩
   ·rcases zx Hc with⟨-,rfl,-⟩|⟨am,-⟩
    ·have h1:=bs.o;have h2:=b8.o;have h3:=Ho.o;omega
    ·exact absurd rfl am
   ·rcases zx Hc with⟨rfl,-,-⟩|⟨-,Hc⟩
    ·exact absurd rfl am
    ·exact hF.o.tk k bk ak HD Hc
  ·show(Y.set i b').length=(L.set i _).length
   rw[ye,ye];exact hF.o.yl
  ·intro z' d2;obtain⟨k,hk⟩:=Z5 d2;dsimp only at hk;rcases zx hk with⟨-,rfl,-⟩|⟨-,hk⟩
   ·exact tM
   ·exact hF.o.mx z' (jx hk)
  ·show(L.set i _).length<=16
   rw[ye];exact a6
  ·show bo.length+(16-0)+18*zM M P (at_.set i (tick+1))<=K
   dsimp only at b1;omega
  ·show nm+(16-0)+18*zM M P (at_.set i (tick+1))<=K
   dsimp only at b2;omega
  ·show S3.nw+2*zM M P (at_.set i (tick+1))<=500000
   dsimp only at b3;omega
  ·show S3.nc+2*zM M P (at_.set i (tick+1))<=500000
   dsimp only at b4;omega
  ·show(L.set i _).length=_
   rw[ye];exact Hj.len
  ·show zM M P (at_.set i (tick+1))+1<=_
   dsimp only at d1;omega
  ·show trips3.length+P.length=_
   have h1:=Hj.trips;have h2:=Hj.P;dsimp only at h1 h2;rw[HR.o.len,<-h1,<-h2]
  ·intro a' a7;dsimp only at a7;rw[vt,if_pos rfl,if_pos cx]at a7;cases a7;omega
  ·intro f hf h1 h2 h3;exact(Hq.o f (by rw[<-Hj.l];exact hf) h1).2 h3
  ·obtain⟨a1,a2,a3,a4,a5⟩:=bm.o last hl;exact⟨a1.mono fun k _ h=>⟨vf _,h⟩,a2,a3,fun _=>a4,a5⟩)
 clear HY;go_upto_region 6 with(fail);refine kx (W:=W4.setCell ⟨ab,i,none⟩ (O J (tick+1))) (fun V=>∃ E5,EvJ base s sA sn sk x tick M K E w i gone 0 E5 V) ⟨_,HJ.o⟩ ?_;clear HJ x4 ac af;rintro W5 ⟨E5,hJ⟩;have HJ:=ze hJ;obtain⟨A3,c3,H8⟩:=hJ.eg.cvs;obtain⟨⟨x0,-,-,-,-⟩,-,-⟩:=hJ.eg.cells;have w14:=(hJ.eg.wd.bx 14 _ rfl).1;rw[H8,hJ.len,hV.o]at w14;clear hJ H8 hT hF h6 b6 hU hY h8 HF HN HR b0 b5 bc hX bm ho b7 hZ hD cA H2 Hs hS bs;go_wp2_with fail
 go_loopw [64] (fun k wr=>∃(j:Nat)(E':Egs),k=O J j/\j<=n/\EvJ base s sA sn sk x tick M K E w i gone j E' wr) (fun k _=>n-(intOf k).toNat)
 case atStart=>exact⟨0,E5,rfl,vf _,HJ.o⟩
 case round=>
  obtain⟨j,E6,rfl,hj,hJ⟩:=hrel;have h0:=ze hJ;have j0:(0:Int)<=(j:Int):=by omega
  clear hJ x0 w14 HJ;by_cases d7:j<n
  ·have j1:(j:Int)<(n:Int):=by omega
   have Ha:j<E6.L.length:=by have h1:=h0.o.len;have h2:=hV.o;omega
   by_cases H9:j=i
   ·subst H9;have e1:((j:Int)==(j:Int))=true:=by simp
    have hd:=ze (xl base s hs sA sn sk x tick M (fun k=>k=j/\j<=j) E6 wr h0.o.eg h0.o.ei j Ha (fun a ha=>h0.o.ai a ha) h0.o.bd hK);go_wp2_with(go_at_call 218;refine hd.o.mono ?_;rintro r w8 ⟨rfl,hC,E8,ht,hu,hw,h4⟩;have HX:=ze (h0.o.pln (by omega) ht hu hw h4 hC);clear hC ht hu hw h4);go_roundw
    case rel=>exact⟨j+1,E8,by go_num,by omega,HX.o⟩
    case measure=>simp[intOf];omega
   ·have e1:((j:Int)==(i:Int))=false:=by simp;omega
    have H0:=ze H9;cases gone with
    |false=>
     clear H9;go_wp2_with fail;go_roundw
     case rel=>exact⟨j+1,E6,by go_num,by omega,h0.o.skip H0.o rfl⟩
     case measure=>simp[intOf];omega
    |true=>
     by_cases al:j<i
     ·clear H9;have e2:decide ((j:Int)<(i:Int))=true:=by simp;omega
      have HM:=ze (fun(E7:Egs)(h7:AdvR E6 E7 j (tick+1))=>(show∀a,E7.at_[j]?=some a->tick<=a from fun a ha=>by obtain⟨z1,a1,b1,k1,k2,-⟩:=h0.o.ei.at_ Ha;have:=h7.at_ a1 k2;rw[this]at ha;cases ha;omega));have hE:=ze (show∀e∈E6.l,e.k=1->e.i=j->tick+1<=e.t from fun e he h1 h2=>h0.o.be e he h1 (by omega) (by omega));have h5:=ze (xj base s hs sA sn sk x tick M (fun k=>k=i/\j<=i) E6 wr h0.o.eg h0.o.ei j Ha (tick+1) (by omega) (by omega) (fun z a h1 h2=>h0.o.ei.can h1 h2 (fun h=>H0.o h.1) hE.o) hE.o);go_wp2_with(first|(go_at_call 141;refine h5.o.mono ?_;rintro r w7 ⟨rfl,H6,E7,hL,hQ,h7,hm⟩;have H1:=ze (h0.o.adv H0.o hL hQ h7 hm rfl (by omega) hE.o H6);clear hm;have hd:=ze (xl base s hs sA sn sk x tick M (fun k=>k=i/\j<=i) E7 w7 hL hQ j (by have:=h7.same.len;omega) (HM.o E7 h7) H1.o.bd hK);clear H6 hL hQ h7)|(go_at_call 218;refine hd.o.mono ?_;rintro r w8 ⟨rfl,hC,E8,ht,hu,hw,h4⟩;have HX:=ze (H1.o.pln (by omega) ht hu hw h4 hC);clear hC ht hu hw h4));go_roundw
      case rel=>exact⟨j+1,E8,by go_num,by omega,HX.o⟩
      case measure=>simp[intOf];omega
     ·have d4:i<j:=by omega
      clear H9 al;have e2:decide ((j:Int)<(i:Int))=false:=by simp;omega
      have HM:=ze (fun(E7:Egs)(h7:AdvR E6 E7 j (tick))=>(show∀a,E7.at_[j]?=some a->tick<=a from fun a ha=>by obtain⟨z1,a1,b1,k1,k2,-⟩:=h0.o.ei.at_ Ha;have:=h7.at_ a1 k2;rw[this]at ha;cases ha;omega));have hE:=ze (show∀e∈E6.l,e.k=1->e.i=j->tick<=e.t from fun e he h1 h2=>h0.o.ei.inv.low e he);have h5:=ze (xj base s hs sA sn sk x tick M (fun k=>k=i/\j<=i) E6 wr h0.o.eg h0.o.ei j Ha (tick) (by omega) (by omega) (fun z a h1 h2=>h0.o.ei.can h1 h2 (fun h=>H0.o h.1) hE.o) hE.o);go_wp2_with(first|(go_at_call 141;refine h5.o.mono ?_;rintro r w7 ⟨rfl,H6,E7,hL,hQ,h7,hm⟩;have H1:=ze (h0.o.adv H0.o hL hQ h7 hm rfl (by omega) hE.o H6);clear hm;have hd:=ze (xl base s hs sA sn sk x tick M (fun k=>k=i/\j<=i) E7 w7 hL hQ j (by have:=h7.same.len;omega) (HM.o E7 h7) H1.o.bd hK);clear H6 hL hQ h7)|(go_at_call 218;refine hd.o.mono ?_;rintro r w8 ⟨rfl,hC,E8,ht,hu,hw,h4⟩;have HX:=ze (H1.o.pln (by omega) ht hu hw h4 hC);clear hC ht hu hw h4));go_roundw
      case rel=>exact⟨j+1,E8,by go_num,by omega,HX.o⟩
      case measure=>simp[intOf];omega
  ·have j1:¬ ((j:Int)<(n:Int)):=by omega
   go_wp2_with fail;go_end0;have h:=h0.o;exact⟨rfl,h.b,E6,h.eg,⟨h.ei.inv.ex_mono (fun k _ hk=>by have:=hk.2;omega),h.ei.tk,h.ei.yl,h.ei.mx,h.ei.n,h.ei.m⟩,h.bd.less (vf _),h.td,h.tr,h.len,fun last hl=>by
    obtain⟨a1,a2,a3,a4,a5⟩:=h.lx last hl;have hv:=a1.mono (exv':=fun _=>False) fun k hk h9=>by have h1:=h.len;have h2:=hV.o;have h3:=h9.1;omega
    refine⟨⟨hv,a2,?_,by rw[h.tr];exact hl.hM⟩,a5⟩;rcases yd gone with hg|hg
    ·exact(a3 hg).cl hs hv
    ·exact a4 hg⟩
def StpQ(base:Nat)(s:Sc)(sA:iX)(sn sk x:Nat)(tau M:Int)(K:Nat)(E:Egs)(w:l6)(e:Ending)(w':l6):Prop:=
 Below base w w'/\((e=.returned (.bool false)/\∃ E',Eg base s sA sn sk x E' w'/\EI s tau M E' (fun _=>False)/\(∀f∈E'.l,M<=f.t)/\E'.L.length=E.L.length/\E'.trips.length+E'.P.length=E.trips.length+E.P.length/\∀ last,LE s tau M last E->LE s tau M last E')\/
  (e=.returned (.bool true)/\∃ tau' E',tau'<=M/\Eg base s sA sn sk x E' w'/\EI s tau' M E' (fun _=>False)/\Bd M E' 0 K/\zM M E'.P E'.at_+1<=zM M E.P E.at_/\E'.trips.length+E'.P.length=E.trips.length+E.P.length/\E'.L.length=E.L.length/\∀ last,LE s tau M last E->LE s tau' M last E'))
theorem CPeek.cons{p g n:Nat}{F:Fr}{m:Option Nat}{L:List En}{a k i:Int}{l:List En}{w w':l6}{e:Ending}(h:CPeek p F g n m L (⟨a,k,i⟩::l) w e w'):e=.returned (.tuple #[.agg #[O J a,O J k,O J i],.bool true])/\∃ L',Cs w' p F g m n L' (⟨a,k,i⟩::l)/\L'.length<=L.length/\But (Xb p g m) w w':=by
 obtain⟨rfl,L',h1,-,h3,h4⟩:=h;exact⟨by simp[zA],L',h1,h3,h4⟩
theorem StpQ.yes{base:Nat}{s:Sc}{sA:iX}{sn sk x:Nat}{tau t' M:Int}{K:Nat}{E E1:Egs}{A:Int->Prop}{w w1 w':l6}{e:Ending}(hb:Below base w w1)(h:cQ base s sA sn sk x t' M K E1 A w1 e w')(h1:E1.P=E.P)(h2:E1.at_=E.at_)(h3:E1.trips=E.trips)(h4:E1.L=E.L)(h5:t'<=M)(hA:∀ last,LE s tau M last E->A last):e=.returned (.tuple #[])/\StpQ base s sA sn sk x tau M K E w (.returned (.bool true)) w':=by
 obtain⟨rfl,h0,E',k1,k2,k3,k4,k5,k6,k7⟩:=h;rw[h1,h2]at k4;rw[h3,h1]at k5;rw[h4]at k6;exact⟨rfl,hb.trans h0,.inr ⟨rfl,t',E',h5,k1,k2,k3,k4,k5,k6,fun last hl=>k7 last (hA last hl)⟩⟩
theorem StpQ.later{base:Nat}{s:Sc}{sA:iX}{sn sk x:Nat}{tau M:Int}{K:Nat}{E:Egs}{w w1 w':l6}{e:Ending}(h:StpQ base s sA sn sk x tau M K E w e w1)(hb:Below w1.heap.size w1 w'):StpQ base s sA sn sk x tau M K E w e w':=by
 obtain⟨h1,h2⟩:=h;rcases h2 with⟨h3,E',k1,k2⟩|⟨h3,t',E',k0,k1,k2⟩
 ·exact⟨h1.trans (hb.mono k1.bs),.inl ⟨h3,E',k1.below hb,k2⟩⟩
 ·exact⟨h1.trans (hb.mono k1.bs),.inr ⟨h3,t',E',k0,k1.below hb,k2⟩⟩
structure StH(base:Nat)(s:Sc)(sA:iX)(sn sk x:Nat)(tau M:Int)(K:Nat)(E:Egs)(w:l6):Prop where
 ok:s.ok
 H:Eg base s sA sn sk x E w
 I:EI s tau M E (fun _=>False)
 L:E.trips.length+E.P.length<=1000000
 B:Bd M E 0 K
 K9:K<=1500000
 T:Tab w
 D:5<base
section
variable{base:Nat}{s:Sc}{sA:iX}{sn sk x:Nat}{tau M:Int}{K:Nat}{E:Egs}{w:l6}
theorem StH.pk(Z:StH base s sA sn sk x tau M K E w){l:List En}(hl:E.l=l):Calls prog 180 #[.pointer (some ⟨x,2,none⟩)] w (CPeek x E.F E.g E.nm E.m E.HL l w):=by
 subst hl;exact kY (F:=E.F) x E.g E.nm E.HL.length E.m E.HL E.l w Z.H.cs rfl (by have:=Z.B.hl;have:=Z.K9;omega)
theorem Qw(Z:StH base s sA sn sk x tau M K E w)(hel:E.l=[]):
  Calls prog 140 #[.pointer (some ⟨x,0,none⟩),O J M] w (StpQ base s sA sn sk x tau M K E w):=by
 have h3:=ze (Z.pk hel);have h0:=ze hel;have hK:=Z.K9;clear hel
 go_in
 go_wp2_with(go_at_call 180;(with_reducible refine h3.o.mono ?_);rintro r w1 ⟨rfl,L1,hC,-,h1,hb⟩;have HC:=ze hC;have h2:=ze hb;have h4:=ze h1;clear hC h1 hb);go_ret;rw[<-h0.o]at HC;have hE:=Z.H.cal HC.o h2.o (fun k _ h=>h);have hb:=(Below.refl w1.heap.size w1).alloc fi (.cells #[O J 0,O J 0,O J 0] 312);refine⟨hE.2.trans (hb.mono hE.1.bs),.inl ⟨rfl,_,hE.1.below hb,⟨Z.I.inv,Z.I.tk,Z.I.yl,Z.I.mx,Z.I.n,Z.I.m⟩,fun f hf=>?_,rfl,rfl,fun _ h=>⟨⟨h.o.lv,h.o.pv,h.o.cl,h.o.hM⟩,h.ar⟩⟩⟩;have hf:f∈E.l:=hf;rw[h0.o]at hf;cases hf
theorem Qx(Z:StH base s sA sn sk x tau M K E w)(T1 k1 i1:Int)(l0:List En)(hel:E.l=⟨T1,k1,i1⟩::l0)(hM:M<=T1):
  Calls prog 140 #[.pointer (some ⟨x,0,none⟩),O J M] w (StpQ base s sA sn sk x tau M K E w):=by
 have h4:=ze (Z.pk hel);have h0:=ze hel;have hK:=Z.K9;clear hel
 go_in
 have hg:decide (T1≥M)=true:=by simpa using hM
 have HM:=ze hM;clear hM;go_wp2_with(go_at_call 180;(with_reducible refine h4.o.mono ?_);rintro r w1 h2;obtain⟨rfl,L1,hC,h1,hb⟩:=CPeek.cons h2;have HC:=ze hC;have h3:=ze hb;have h5:=ze h1;clear hC h1 hb h2);go_ret;rw[<-h0.o]at HC;have hE:=Z.H.cal HC.o h3.o (fun k _ h=>h);have hb:=(Below.refl w1.heap.size w1).alloc fi (.cells #[O J T1,O J k1,O J i1] 312);refine⟨hE.2.trans (hb.mono hE.1.bs),.inl ⟨rfl,_,hE.1.below hb,⟨Z.I.inv,Z.I.tk,Z.I.yl,Z.I.mx,Z.I.n,Z.I.m⟩,fun f hf=>?_,rfl,rfl,fun _ h=>⟨⟨h.o.lv,h.o.pv,h.o.cl,h.o.hM⟩,h.ar⟩⟩⟩;have hf:f∈E.l:=hf;have hs:=Z.H.cs.ch.srt;rw[h0.o]at hf hs;rcases qx.1 hf with rfl|hf
 ·exact HM.o
 ·have:=(GA ((QK.1 hs).1 f hf)).1;have:=HM.o;have h9:(⟨T1,k1,i1⟩:En).t=T1:=rfl;omega
theorem Qy(Z:StH base s sA sn sk x tau M K E w)(T1:Int)(l0:List En)(p0:Pa)(P0:List Pa)(hel:E.l=⟨T1,0,0⟩::l0)(hP:E.P=p0::P0)(hpt:T1=p0.tick)(hM:T1<M):
  Calls prog 140 #[.pointer (some ⟨x,0,none⟩),O J M] w (StpQ base s sA sn sk x tau M K E w):=by
 have HP:=ze hP;have hs:=ze hpt;clear hP hpt;have hG:=ze (Z.pk hel);have h8:=ze hel;have hK:=Z.K9;clear hel
 go_in
 have hg:decide (T1≥M)=false:=by simp;omega
 have HM:=ze hM;clear hM;go_upto_region 4 with(go_at_call 180;(with_reducible refine hG.o.mono ?_);rintro r w1 hv;obtain⟨rfl,L1,hC,ht,hb⟩:=CPeek.cons hv;have HC:=ze hC;have hy:=ze hb;have hp:=ze ht;clear hC ht hb hv);refine kx (W:=w1.alloc (.cells #[O J T1,O J 0,O J 0] 312)) (fun V=>Bx V w1.heap.size [O J T1,O J 0,O J 0]/\w1.heap.size<V.heap.size/\Below w1.heap.size w1 V) ⟨Bx.new w1 [O J T1,O J 0,O J 0] 312,by simp,fh.alloc fi _⟩ ?_;rintro V ⟨hq,hR,hi⟩;rw[<-h8.o]at HC;have hE:=Z.H.cal HC.o hy.o (fun k _ h=>h);have he:=hE.1.below hi;have hD:=ze he;have hz:=ze (hE.2.trans (hi.mono hE.1.bs));have HQ:=ze hq;have hr:=ze (show Calls prog 181 #[.pointer (some ⟨x,2,none⟩)] V (CPop x E.F E.g E.nm E.m L1 E.l V)from Yu (F:=E.F) x E.g E.nm L1.length E.m L1 E.l V he.cs rfl (by have:=hp.o;have:=Z.B.hl;omega));clear hq hi hE he;go_upto_region 5 with(go_at_call 181;(with_reducible refine hr.o.mono ?_);rintro r w2 ⟨rfl,L2,hC,hu,hb⟩;have ho:=ze hC;have hc:=ze hb;have hF:=ze hu;clear hC hu hb);have hj:=ho.o;rw[h8.o]at hj;have h9:=hD.o.cal hj hc.o (fun k _ h=>h);have hB:=ze h9.1;have hA:=ze (hz.o.trans h9.2);have hI:=ze (HQ.o.but hc.o hR (fun hx=>by
  have h1:=HC.o.xlt hx;omega))
 have hS:=hc.o.size;obtain⟨⟨-,-,-,-,x6⟩,-,fx6⟩:=h9.1.cells;obtain⟨⟨c0,c1,c2⟩,-⟩:=hI.o.o3;dsimp only at x6;clear hj h9 ho hr;have hm:=hB.o.count (RowKit.wrap64 (E.evn+1));have h6:=Z.B;have hN:=hF.o;have hL:=hp.o;have h0:=Z.I.inv;have h5:=Z.H.cs.ch.srt;have hn:=Z.H.cs.ch.uq;rw[h8.o]at h0 h5 hn;have h7:=h0.pop h5;have hO:0<=T1:=by have h1:=h0.T0;have h2:=h0.tT;have h3:=h0.low _ (xz ..);dsimp only at h3;omega
 have h4:=hA.o.trans hm.2;have hd:=ze h4;have ha:=ze (Xz base s Z.ok sA sn sk x T1 M K _ _ hm.1 ⟨h7.ex_mono (fun k _ h=>by rcases h with h|h;exact h;exact absurd h.1 (show¬(0:Int)=1 by decide)),Z.I.tk,Z.I.yl,Z.I.mx,Z.I.n,Z.I.m⟩ (fun f hf hk=>by
  have h1:=(QK.1 hn).1 f hf;rcases h0.ev f (yP _ hf)with⟨h2,-⟩|⟨h2,h3,-⟩
  ·omega
  ·exact h1 ⟨h2.symm,h3.symm⟩) hO (by have:=HM.o;omega) p0 P0 HP.o (by have:=hs.o;omega) (Z.T.below h4 Z.D) Z.D Z.L ⟨by show L2.length+0+18*zM M E.P E.at_<=K;have:=h6.hl;omega,h6.nm,h6.nw,h6.nc⟩ Z.K9)
 clear hm h6 hN hL h0 h5 hn h7 h4;go_wp2_with(go_at_call 182;refine ha.o.mono ?_;rintro r w5 hQ;obtain⟨rfl,hw⟩:=StpQ.yes (tau:=tau) (E:=E) hd.o hQ rfl rfl rfl rfl (by have:=HM.o;omega) (fun last hl=>hl.arr Z.I h8.o HP.o hs.o rfl rfl rfl rfl rfl rfl);have hJ:=ze hw;clear hQ hw);go_ret;exact hJ.o
theorem Qz(Z:StH base s sA sn sk x tau M K E w)(T1:Int)(i:Nat)(l0:List En)(z:Ca)(a:Int)(hel:E.l=⟨T1,1,i⟩::l0)(hz:E.L[i]?=some z)(ha:E.at_[i]?=some a)(hT:CarT s.gap z.c a T1)(hM:T1<M):
  Calls prog 140 #[.pointer (some ⟨x,0,none⟩),O J M] w (StpQ base s sA sn sk x tau M K E w):=by
 have HZ:=ze hz;have HA:=ze ha;have hF:=ze hT;clear hz ha hT;have hL:=ze (Z.pk hel);have h8:=ze hel;have hK:=Z.K9;clear hel
 go_in
 have hg:decide (T1≥M)=false:=by simp;omega
 have HM:=ze hM;clear hM;go_upto_region 4 with(go_at_call 180;(with_reducible refine hL.o.mono ?_);rintro r w1 hw;obtain⟨rfl,L1,hC,hu,hb⟩:=CPeek.cons hw;have HC:=ze hC;have hA:=ze hb;have hs:=ze hu;clear hC hu hb hw);refine kx (W:=w1.alloc (.cells #[O J T1,O J 1,O J (i:Int)] 312)) (fun V=>Bx V w1.heap.size [O J T1,O J 1,O J (i:Int)]/\w1.heap.size<V.heap.size/\Below w1.heap.size w1 V) ⟨Bx.new w1 [O J T1,O J 1,O J (i:Int)] 312,by simp,fh.alloc fi _⟩ ?_;rintro V ⟨hq,hU,hm⟩;rw[<-h8.o]at HC;have hE:=Z.H.cal HC.o hA.o (fun k _ h=>h);have hj:=hE.1.below hm;have hI:=ze hj;have hB:=ze (hE.2.trans (hm.mono hE.1.bs));have HQ:=ze hq;have ht:=ze (show Calls prog 181 #[.pointer (some ⟨x,2,none⟩)] V (CPop x E.F E.g E.nm E.m L1 E.l V)from Yu (F:=E.F) x E.g E.nm L1.length E.m L1 E.l V hj.cs rfl (by have:=hs.o;have:=Z.B.hl;omega));clear hq hm hE hj;go_upto_region 5 with(go_at_call 181;(with_reducible refine ht.o.mono ?_);rintro r w2 ⟨rfl,L2,hC,hv,hb⟩;have hr:=ze hC;have he:=ze hb;have hJ:=ze hv;clear hC hv hb);have hn:=hr.o;rw[h8.o]at hn;have hc:=hI.o.cal hn he.o (fun k _ h=>h);have hG:=ze hc.1;have hD:=ze (hB.o.trans hc.2);have hN:=ze (HQ.o.but he.o hU (fun hx=>by
  have h1:=HC.o.xlt hx;omega))
 have hV:=he.o.size;obtain⟨⟨-,-,-,-,x6⟩,-,fx6⟩:=hc.1.cells;obtain⟨⟨c0,c1,c2⟩,-⟩:=hN.o.o3;dsimp only at x6;clear hn hc hr ht;have ho:=hG.o.count (RowKit.wrap64 (E.evn+1));have h6:=Z.B;have hR:=hJ.o;have hP:=hs.o;have h0:=Z.I.inv;have h4:=Z.H.cs.ch.srt;have hp:=Z.H.cs.ch.uq;rw[h8.o]at h0 h4 hp;have h7:=h0.pop h4;have hS:0<=T1:=by have h1:=h0.T0;have h2:=h0.tT;have h3:=h0.low _ (xz ..);dsimp only at h3;omega
 have h5:=hD.o.trans ho.2;have hi:=ze h5;have hd:=ze (UC base s Z.ok sA sn sk x T1 M K _ _ i ho.1 ⟨h7.ex_mono (fun k _ h=>by rcases h with h|h;exact absurd h id;have h9:((i:Nat):Int)=(k:Int):=h.2;omega),Z.I.tk,Z.I.yl,Z.I.mx,Z.I.n,Z.I.m⟩ (qd.1 HZ.o).1 (fun z' a' h1 h2=>by
  have h1:E.L[i]?=some z':=h1;have h2:E.at_[i]?=some a':=h2;rw[HZ.o]at h1;rw[HA.o]at h2;cases h1;cases h2;exact hF.o) (fun f hf hk=>by
  rcases cO h0 h4 hp rfl f hf with⟨-,h2,h3⟩|⟨h2,-⟩
  ·exact⟨h2,h3⟩
  ·omega) hS (by have:=HM.o;omega) (by have:=Z.L;show E.trips.length<=_;omega) ⟨by show L2.length+0+18*zM M E.P E.at_<=K;have:=h6.hl;omega,h6.nm,h6.nw,h6.nc⟩ Z.K9)
 clear ho h6 hR hP h0 h4 hp h7 h5;go_wp2_with(go_at_call 183;refine hd.o.mono ?_;rintro r w5 hQ;obtain⟨rfl,hy⟩:=StpQ.yes (tau:=tau) (E:=E) hi.o hQ rfl rfl rfl rfl (by have:=HM.o;omega) (fun last hl=>hl.evt Z.I h8.o rfl rfl rfl rfl rfl rfl);have hO:=ze hy;clear hQ hy);go_ret;exact hO.o
theorem GN(Z:StH base s sA sn sk x tau M K E w):
  Calls prog 140 #[.pointer (some ⟨x,0,none⟩),O J M] w (StpQ base s sA sn sk x tau M K E w):=by
 rcases h0:E.l with _|⟨⟨T1,k1,i1⟩,l0⟩
 ·exact Qw Z h0
 ·by_cases hM:M<=T1
  ·exact Qx Z T1 k1 i1 l0 h0 hM
  ·have h6:=Z.I.inv.ev ⟨T1,k1,i1⟩ (by rw[h0];exact xz ..);rcases h6 with⟨h1,j,z,a,h2,h3,h4,h5⟩|⟨h1,h2,p,P',h3,h4⟩
   ·dsimp only at h1 h2 h5;subst h1;subst h2;exact Qz Z T1 j l0 z a h0 h3 h4 h5 (by omega)
   ·dsimp only at h1 h2 h4;subst h1;subst h2;exact Qy Z T1 l0 p P' h0 h3 h4 (by omega)
end
def dE(M:Int)(x:Nat)(w:l6):Nat:=pLen x w+(match w.cell? ⟨x,4,none⟩with
 |some (.slice (some a) n _)=>((List.range n).map fun j=>match w.cell? ⟨a.block,j,none⟩with|some v=>(M-intOf v).toNat|none=>0).sum
 |_=>0)
theorem Eg.tdW_eq{base:Nat}{s:Sc}{sA:iX}{sn sk x:Nat}{E:Egs}{w:l6}(H:Eg base s sA sn sk x E w)(M:Int):dE M x w=zM M E.P E.at_:=by
 unfold dE zM;rw[H.pLen,H.cells.1.2.2.1];dsimp only
 congr 2
 apply bT;intro j;rw[QL,QL];rcases YF j E.at_.length with h|h
 ·obtain⟨a,ha,hc,-⟩:=H.ao.int_at rfl h;rw[List.getElem?_range h,ha];simp only[Option.map_some,hc]
  rfl
 ·rw[Y0 (by simpa using h),Y0 h];rfl
def et(base:Nat)(s:Sc)(sA:iX)(sn sk x:Nat)(tau M:Int)(E:Egs)(w:l6)(e:Ending)(w':l6):Prop:=
 e=.returned (.tuple #[])/\Below base w w'/\∃ E',Eg base s sA sn sk x E' w'/\EI s M M E' (fun _=>False)/\E'.T=M/\E'.L.length=E.L.length/\E'.trips.length+E'.P.length=E.trips.length+E.P.length/\∀ last,LE s tau M last E->E'.P=[]/\∀ t∈E'.trips,0<=t.al
theorem UD(base:Nat)(s:Sc)(hs:s.ok)(sA:iX)(sn sk x:Nat)(tau M:Int)(K:Nat)(E:Egs)(w:l6)(H:Eg base s sA sn sk x E w)(hI:EI s tau M E (fun _=>False))(htM:tau<=M)(hl:E.trips.length+E.P.length<=1000000)(hB:Bd M E 0 K)(hK:K<=1500000)(ht:Tab w)(hD:5<base):
  Calls prog 107 #[.pointer (some ⟨x,0,none⟩),O J M] w (et base s sA sn sk x tau M E w):=by
 have HH:=ze H;have HI:=ze hI;have HB:=ze hB;have HL:=ze hl;have HT:=ze ht;have hn:=hI.n;generalize hY:E.L.length=n at*;have hG:=ze hY;have M0:0<=M:=by have h1:=hI.inv.T0;have h2:=hI.inv.tT;omega
 have MM:=hI.m;clear H hI hB hl ht hY
 go_in
 go_wp2_with fail
 go_loopw [] (fun wr=>∃ t1 E1,t1<=M/\Eg base s sA sn sk x E1 wr/\EI s t1 M E1 (fun _=>False)/\Bd M E1 0 K/\E1.L.length=n/\E1.trips.length+E1.P.length=E.trips.length+E.P.length/\Below base w wr/\∀ last,LE s tau M last E->LE s t1 M last E1) (fun wr=>dE M x wr)
 case atStart=>exact⟨tau,E,htM,HH.o,HI.o,HB.o,hG.o,rfl,fh,fun _ h=>h⟩
 case round=>
  obtain⟨t1,E1,H9,hE,hI,hB,hW,hw,hb,hV⟩:=hrel;have hq:=ze hV;clear hV;have hz:=ze hE;have H3:=ze hI;have H0:=ze hB;have hr:=ze hW;have hu:=ze hw;have hp:=ze hb;have ha:=ze (GN (s:=s) (sA:=sA) (sn:=sn) (sk:=sk) ⟨hs,hE,hI,by rw[hw];exact HL.o,hB,hK,HT.o.below hb hD,hD⟩);clear hE hI hB hW hw hb;go_wp2_with fail;refine ha.o.mono ?_;rintro r w1 ⟨hc,hQ⟩;rcases hQ with⟨rfl,E2,h1,h2,h3,h4,h5,h6⟩|⟨rfl,t2,E2,h0,h1,h2,h3,h4,h5,h6,h7⟩
  ·have hm:=ze h1;have h9:=ze h2;have hC:=ze h3;have H1:=ze (hp.o.trans hc);have hX:E2.L.length=n:=by rw[h4];exact hr.o
   have hF:=ze hX;have hv:=ze (h5.trans hu.o);have H2:=ze (fun last hl=>(h6 last (hq.o last hl)).done hs h2 h3);clear h1 h2 h3 h4 h5 h6 hc hX ha hq;have H4:=ze (show EI s M M E2 (fun _=>False)from⟨h9.o.inv.tau_ H9 hC.o,h9.o.tk,h9.o.yl,h9.o.mx,h9.o.n,h9.o.m⟩);obtain⟨A2,c2,hT⟩:=hm.o.cvs;obtain⟨⟨x0,-,-,-,-⟩,-,-⟩:=hm.o.cells;have w14:=(hm.o.wd.bx 14 _ rfl).1;rw[hT,hF.o]at w14;clear hT hz H3 H0 hr hu h9 hC hp;go_wp2_with fail
   go_loopw [16] (fun k wr=>∃ j:Nat,k=O J j/\j<=n/\ArrI base s sA sn sk x M M E2 w j wr) (fun k _=>n-(intOf k).toNat)
   case atStart=>exact⟨0,rfl,vf _,E2,hm.o,H4.o,SameC.refl E2,fun i hi=>absurd hi (by omega),fi,H1.o,fun h=>h⟩
   case round=>
    obtain⟨j,rfl,hj,E3,hE,hI,hS,hA,hZ,hb,hU⟩:=hrel;have H5:=ze hU;clear hU;have hf:=ze hE;have h8:=ze hI;have HS:=ze hS;have HA:=ze hA;have H7:=ze hZ;have hy:=ze hb;have hk:E3.L.length=n:=by rw[hS.len];exact hF.o
    have hg:=ze hk;have j0:(0:Int)<=(j:Int):=by omega
    clear hE hI hS hA hZ hb hk x0 w14;by_cases Ha:j<n
    ·have j1:(j:Int)<(n:Int):=by omega
     have ho:=ze (xj base s hs sA sn sk x M M (fun _=>False) E3 wr hf.o h8.o j (by have:=hg.o;omega) M M0 (Vu _) (fun z a h1 h2=>h8.o.can h1 h2 (fun h=>h) (fun e he _ _=>h8.o.inv.low e he)) (fun e he _ _=>h8.o.inv.low e he));go_wp2_with(go_at_call 141;refine ho.o.mono ?_;rintro r w3 ⟨rfl,hc,E5,hM,hO,hR,hL⟩;have HX:=ze (ArrI.next HS.o HA.o H7.o hy.o H5.o h8.o hM hO hR hL hc);clear hc hM hO hR hL);go_roundw
     case rel=>exact⟨j+1,by go_num,by omega,HX.o⟩
     case measure=>simp[intOf];omega
    ·have j1:¬ ((j:Int)<(n:Int)):=by omega
     obtain⟨W3,H8⟩:∃ W3,W3=wr:=⟨_,rfl⟩;subst H8;obtain⟨⟨x0,-,-,-,-⟩,-,-⟩:=hf.o.cells;have w16:=(hf.o.wd.bx 16 _ rfl).1;have f16:=(hf.o.wd.bx 16 _ rfl).2;have hP:max E3.T M=M:=by have:=h8.o.inv.tT;omega
     have hJ:=ze hP;clear hP;go_upto_region 6 with(fail);go_region
     all_goals(
      go_wp2_with fail;go_end0;obtain⟨t9,hN,hb9⟩:=hf.o.tick (max E3.T M);have hd:=(Below.refl (W3.setCell ⟨E3.wb,16,none⟩ (O J (max E3.T M))).heap.size (W3.setCell ⟨E3.wb,16,none⟩ (O J (max E3.T M)))).drew;refine⟨rfl,(hy.o.trans hb9).trans (hd.mono hN.bs),_,hN.below hd,⟨?_,h8.o.tk,h8.o.yl,h8.o.mx,h8.o.n,h8.o.m⟩,hJ.o,?_,?_,?_⟩
      ·exact h8.o.inv.time (show E3.T<=max E3.T M by omega) (show max E3.T M<=M by have:=hJ.o;omega)
      ·show E3.L.length=_
       rw[hg.o,hG.o]
      ·show E3.trips.length+E3.P.length=_
       rw[HS.o.trips,HS.o.P];exact hv.o
      ·show∀last,LE s tau M last E->E3.P=[]/\∀ t∈E3.trips,0<=t.al
       rw[HS.o.trips,HS.o.P];exact H2.o)
  ·have HX:=ze (show∃t1 E1,t1<=M/\Eg base s sA sn sk x E1 w1/\EI s t1 M E1 (fun _=>False)/\Bd M E1 0 K/\E1.L.length=n/\E1.trips.length+E1.P.length=E.trips.length+E.P.length/\Below base w w1/\∀ last,LE s tau M last E->LE s t1 M last E1 from⟨t2,E2,h0,h1,h2,h3,h6.trans hr.o,h5.trans hu.o,hp.o.trans hc,fun last hl=>h7 last (hq.o last hl)⟩);have H6:=ze (show dE M x w1<dE M x wr from by rw[h1.tdW_eq,hz.o.tdW_eq];omega);clear h0 h1 h2 h3 h4 h5 h6 h7 hc ha;go_wp2_with fail;go_roundw
   case rel=>exact HX.o
   case measure=>exact H6.o
end
end Go.Proofs.YtdeogmbfgkepeaaGreatDoor
