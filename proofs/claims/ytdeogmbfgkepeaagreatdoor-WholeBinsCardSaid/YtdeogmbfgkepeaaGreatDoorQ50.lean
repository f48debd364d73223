/- Contracts that WholeBins needs. Each tells its conditions. -/
import Derived.Test.YtdeogmbfgkepeaaGreatDoorQ42
import Derived.Test.YtdeogmbfgkepeaaGreatDoorQ44
import Derived.Test.YtdeogmbfgkepeaaGreatDoorQ48
set_option linter.unusedVariables false
set_option linter.unusedSimpArgs false
set_option maxRecDepth 100000
set_option maxHeartbeats 64000000
namespace Go.Proofs.YtdeogmbfgkepeaaGreatDoor
open Go.Proofs.Tryz
open Go.Value renaming int->O
open Go.IntKind renaming i64->J
section
open Go.RowKit HB Go.Maps CalP HeapP
section
variable{base:Nat}{s:Sc}{sA:Option Addr}{sn sk x:Nat}{E:Egs}{w w':World}{tau M:Int}{ex:Nat->Prop}
theorem Wd.oks{wb h:Nat}{S:HS}{cv tv:Value}{L:List Ca}{trips:List Tr}{T:Int}(H:Wd base s sA sn sk wb h w S cv tv L trips T)(hs:s.ok)(hw:∀ x∈L,CarW s x.c x.l):∀ x∈L,x.ok s.gap:=fun x hx=>by
 have h:=hw x hx;have h1:=(H.ri x hx).1.2;have h2:=h.cp;have h3:=hs.cap;exact⟨h.p0,h.p1,h.d0,h.d1,by omega⟩
def dD(base:Nat)(s:Sc)(sA:Option Addr)(sn sk x:Nat)(tau M:Int)(ex:Nat->Prop)(E:Egs)(p:Pa)(P':List Pa)(w:World)(e:Ending)(w':World):Prop:=
 e=.returned (.tuple #[])/\Below base w w'/\∃(S':HS)(tv':Value)(trips':List Tr)(t':Nat->Nat),Eg base s sA sn sk x {E with S:=S',tv:=tv',trips:=trips',tag:=t'} w'/\
  EI s tau M {E with S:=S',tv:=tv',trips:=trips',tag:=t',P:=P'} ex/\S'.nw<=E.S.nw+1/\S'.nc<=E.S.nc+1/\trips'.length=E.trips.length+1
theorem bw(hs:s.ok)(H:Eg base s sA sn sk x E w)(hI:EI s tau M E ex){p:Pa}{P':List Pa}(hP:E.P=p::P')(hk:∀ e∈E.l,e.k≠0)(hp:p.tick<=E.T)(ht:Tab w)(hD:5<base)(hl:E.trips.length<=1000000){r K:Nat}(hB:Bd M E r K)(hK:K<=99000):
  Calls prog 142 #[.pointer (some ⟨E.wb,0,none⟩),.agg #[O J p.id,O J p.tick,O J p.frm,O J p.to_]] w (dD base s sA sn sk x tau M ex E p P' w):=by
 obtain⟨A,c,hcv,hn,-⟩:=H.wd.cr.shape;have hpo:=hI.inv.ps.ok p (by rw[hP];exact List.mem_cons_self ..);have hnn:=hI.n;have hinv:=hI.inv;have hlen:∀ k,(E.S.L k).length<=1000000:=fun k=>Nat.le_trans (hinv.inv.len k) hl
 have HW:=H.wd;rw[hcv]at HW;refine(Xy base s hs sA sn sk E.wb E.h w E.S A E.L.length c E.tv E.L E.trips E.T p.id p.tick p.frm p.to_ HW (HW.oks hs hinv.car) (by omega) hpo.2.2.1 (by omega) hpo.2.2.2.2.1 (by omega) ht hD hl (by have:=hB.nw;omega) (by have:=hB.nc;omega) hlen).mono fun e w'⟨he,S',tv',key,wt,hN,h1,h2,h3,h4⟩=>?_
 rw[<-hcv]at hN;obtain⟨hE,hb⟩:=H.world hN;refine⟨he,hb,S',tv',_,_,hE,⟨?_,hI.tk,hI.yl,hI.mx,hI.n,hI.m⟩,h3,h4,by simp⟩
 show EInv s tau E.T P' E.L E.at_ (E.trips++[_]) S'.L E.l ex
 rw[h2];rw[hP]at hinv;exact hinv.adm hk hp key wt h1 _ rfl rfl rfl
end
def pLen(x:Nat)(w:World):Nat:=match w.cell? ⟨x,1,none⟩with|some v=>di v|none=>0
theorem Eg.pLen{base:Nat}{s:Sc}{sA:Option Addr}{sn sk x:Nat}{E:Egs}{w:World}(H:Eg base s sA sn sk x E w):pLen x w=E.P.length:=by
 unfold Go.Proofs.YtdeogmbfgkepeaaGreatDoor.pLen;rw[H.cells.1.2.1,H.pl.1];rfl
theorem Eg.cvs{base:Nat}{s:Sc}{sA:Option Addr}{sn sk x:Nat}{E:Egs}{w:World}(H:Eg base s sA sn sk x E w):∃ A c,E.cv=.slice A E.L.length c:=by
 obtain⟨A,c,h,-,-⟩:=H.wd.cr.shape;exact⟨A,c,h⟩
def cQ(base:Nat)(s:Sc)(sA:Option Addr)(sn sk x:Nat)(tick M:Int)(K:Nat)(E:Egs)(w:World)(e:Ending)(w':World):Prop:=
 e=.returned (.tuple #[])/\Below base w w'/\∃ E',Eg base s sA sn sk x E' w'/\EI s tick M E' (fun _=>False)/\Bd M E' 0 K/\zM M E'.P E'.at_+1<=zM M E.P E.at_/\E'.trips.length+E'.P.length=E.trips.length+E.P.length/\E'.L.length=E.L.length
def ArrI(base:Nat)(s:Sc)(sA:Option Addr)(sn sk x:Nat)(tick M:Int)(E:Egs)(w:World)(j:Nat)(wr:World):Prop:=
 ∃E',Eg base s sA sn sk x E' wr/\EI s tick M E' (fun _=>False)/\SameC E E'/\(∀i,i<j->∀ a,E'.at_[i]?=some a->tick<=a)/\zM M E'.P E'.at_<=zM M E.P E.at_/\Below base w wr
theorem ArrI.next{base:Nat}{s:Sc}{sA:Option Addr}{sn sk x:Nat}{tick M:Int}{E E1 E2:Egs}{w w1 w2:World}{j:Nat}(h3:SameC E E1)(h4:∀ i,i<j->∀ a,E1.at_[i]?=some a->tick<=a)(h5:zM M E1.P E1.at_<=zM M E.P E.at_)(h6:Below base w w1)(hI1:EI s tick M E1 (fun _=>False))(hE:Eg base s sA sn sk x E2 w2)(hI:EI s tick M E2 (fun _=>False))(hR:AdvR E1 E2 j tick)(hb:Below base w1 w2):ArrI base s sA sn sk x tick M E w (j+1) w2:=by
 refine⟨E2,hE,hI,h3.trans hR.same,fun i hi a ha=>?_,Nat.le_trans (hR.td M) h5,h6.trans hb⟩;by_cases hij:i=j
 ·subst hij;have hl:i<E1.at_.length:=by
   have h1:=hI.inv.len;have h2:=hI1.inv.len;have h3:=(List.getElem?_eq_some_iff.1 ha).1;have h4:=hR.same.len;omega
  have:=hR.at_ _ (List.getElem?_eq_getElem hl);rw[this]at ha;cases ha;omega
 ·rw[(hR.oth i hij).1]at ha;exact h4 i (by omega) a ha
def ArrJ(base:Nat)(s:Sc)(sA:Option Addr)(sn sk x:Nat)(tick M:Int)(K:Nat)(E:Egs)(w wr:World)(E':Egs):Prop:=
 Eg base s sA sn sk x E' wr/\EI s tick M E' (fun _=>False)/\E'.T=tick/\E'.l=E.l/\E'.L.length=E.L.length/\(∀a∈E'.at_,tick<=a)/\Below base w wr/\
  ∃pre,E.P=pre++E'.P/\E'.trips.length=E.trips.length+pre.length/\zM M E'.P E'.at_+pre.length<=zM M E.P E.at_/\Bd M E' (17*pre.length) K
def ArrK(base:Nat)(s:Sc)(sA:Option Addr)(sn sk x:Nat)(tick M:Int)(K:Nat)(E:Egs)(w:World)(j:Nat)(wr:World):Prop:=
 ∃E',Eg base s sA sn sk x E' wr/\EI s tick M E' (fun _=>False)/\(∀a∈E'.at_,tick<=a)/\Bd M E' (16-j) K/\zM M E'.P E'.at_+1<=zM M E.P E.at_/\E'.trips.length+E'.P.length=E.trips.length+E.P.length/\E'.L.length=E.L.length/\Below base w wr
theorem Bd.same{M:Int}{E E':Egs}{r K:Nat}(h:Bd M E r K)(h1:E'.HL=E.HL)(h2:E'.nm=E.nm)(h3:E'.S=E.S)(h4:zM M E'.P E'.at_<=zM M E.P E.at_):Bd M E' r K:=by
 obtain⟨k1,k2,k3,k4⟩:=h;exact⟨by rw[h1];omega,by rw[h2];omega,by rw[h3];omega,by rw[h3];omega⟩
theorem UA(u:Int)(p:Pa)(P:List Pa)(at_:List Int):zM u (p::P) at_=zM u P at_+1:=by unfold zM;simp;omega
theorem ArrJ.next{base:Nat}{s:Sc}{sA:Option Addr}{sn sk x:Nat}{tick M:Int}{K:Nat}{E E2 E3:Egs}{w w1 w2:World}{p:Pa}{P':List Pa}(hJ:ArrJ base s sA sn sk x tick M K E w w1 E2)(hP:E2.P=p::P')(hE:Eg base s sA sn sk x E3 w2)(hI:EI s tick M E3 (fun _=>False))(h1:E3.T=E2.T)(h2:E3.l=E2.l)(h3:E3.L=E2.L)(h4:E3.at_=E2.at_)(h5:E3.P=P')(h6:E3.trips.length=E2.trips.length+1)(h7:E3.HL=E2.HL)(h8:E3.nm=E2.nm)(h9:E3.S.nw<=E2.S.nw+1)(h10:E3.S.nc<=E2.S.nc+1)(hb:Below base w1 w2):ArrJ base s sA sn sk x tick M K E w w2 E3:=by
 obtain⟨-,-,k1,k2,k3,k4,k5,pre,k6,k7,k8,k9⟩:=hJ;have ht:zM M E2.P E2.at_=zM M E3.P E3.at_+1:=by rw[hP,h5,h4,UA]
 obtain⟨b1,b2,b3,b4⟩:=k9;refine⟨hE,hI,h1.trans k1,h2.trans k2,by rw[h3];exact k3,by rw[h4];exact k4,k5.trans hb,pre++[p],?_,?_,?_,?_⟩
 ·rw[k6,hP,h5];simp
 ·rw[h6,k7,List.length_append];simp;omega
 ·rw[List.length_append];simp;omega
 ·rw[List.length_append];exact⟨by rw[h7];simp;omega,by rw[h8];simp;omega,by simp;omega,by simp;omega⟩
theorem ArrK.of_nil{base:Nat}{s:Sc}{sA:Option Addr}{sn sk x:Nat}{tick M:Int}{K:Nat}{E E2:Egs}{w w1:World}{p0:Pa}{P0:List Pa}(hP0:E.P=p0::P0)(hJ:ArrJ base s sA sn sk x tick M K E w w1 E2)(hP:E2.P=[]):ArrK base s sA sn sk x tick M K E w 0 w1:=by
 obtain⟨k0,kI,k1,k2,k3,k4,k5,pre,k6,k7,k8,k9⟩:=hJ;have h1:E.P.length=pre.length:=by rw[k6,hP];simp
 have h2:1<=pre.length:=by rw[<-h1,hP0];simp
 exact⟨E2,k0,kI,k4,k9.less (by omega),by omega,by rw[k7,hP,h1];simp,k3,k5⟩
theorem ArrK.of_set{base:Nat}{s:Sc}{sA:Option Addr}{sn sk x:Nat}{tick M:Int}{K:Nat}{E E2:Egs}{w w1 w2:World}{p0 p:Pa}{P0 P':List Pa}(hP0:E.P=p0::P0)(hp0:p0.tick<=tick)(hJ:ArrJ base s sA sn sk x tick M K E w w1 E2)(hP:E2.P=p::P')(hp:¬ p.tick<=tick)(hS:bj x E2.F E2.g E2.nm E2.m E2.HL E2.l ⟨p.tick,0,0⟩ w1.drew w2):ArrK base s sA sn sk x tick M K E w 0 w2:=by
 obtain⟨k0,kI,k1,k2,k3,k4,k5,pre,k6,k7,k8,k9⟩:=hJ;have h2:1<=pre.length:=by
  rcases Nat.eq_zero_or_pos pre.length with h|h
  ·obtain rfl:=List.eq_nil_of_length_eq_zero h;rw[hP0,hP]at k6;simp only[List.nil_append,List.cons.injEq]at k6;exact absurd (k6.1▸hp0) hp
  ·exact h
 obtain⟨g',b',n',L',h3,h4,h5,h6,h7⟩:=hS;obtain⟨l',h8,h9⟩:=un ⟨p.tick,0,0⟩ (wo E2.l 0 0) (JK k0.cs.ch.srt 0 0);have h10:=(k0.below fh.drew).cal (h3 l' h8 h9) h6 h7;have hI:=kI.inv;rw[hP]at hI;have hb:Bd M E2 17 K:=k9.less (by omega);obtain⟨b1,b2,b3,b4⟩:=hb;have hl:E.P.length=pre.length+E2.P.length:=by rw[k6,List.length_append]
 refine⟨_,h10.1,⟨?_,kI.tk,kI.yl,kI.mx,kI.n,kI.m⟩,k4,⟨?_,?_,?_,?_⟩,?_,?_,k3,(k5.trans fh.drew).trans h10.2⟩
 ·show EInv s tick E2.T E2.P E2.L E2.at_ E2.trips E2.S.L l' _
  rw[hP];exact hI.next (by omega) h9
 ·show L'.length+(16-0)+18*zM M E2.P E2.at_<=K
  omega
 ·show n'+(16-0)+18*zM M E2.P E2.at_<=K
  omega
 ·show E2.S.nw+(16-0)+18*zM M E2.P E2.at_<=K
  omega
 ·show E2.S.nc+(16-0)+18*zM M E2.P E2.at_<=K
  omega
 ·show zM M E2.P E2.at_+1<=_
  omega
 ·show E2.trips.length+E2.P.length=_
  omega
theorem ArrK.next{base:Nat}{s:Sc}{sA:Option Addr}{sn sk x:Nat}{tick M:Int}{K:Nat}{E E1 E2:Egs}{w w1 w2:World}{j:Nat}(hj:j<16)(h3:∀ a∈E1.at_,tick<=a)(h4:Bd M E1 (16-j) K)(h5:zM M E1.P E1.at_+1<=zM M E.P E.at_)(h6:E1.trips.length+E1.P.length=E.trips.length+E.P.length)(h7:E1.L.length=E.L.length)(h8:Below base w w1)(hE:Eg base s sA sn sk x E2 w2)(hI:EI s tick M E2 (fun k=>False/\k≠j))(hR:PlnR E1 E2 j)(hb:Below base w1 w2):ArrK base s sA sn sk x tick M K E w (j+1) w2:=
 ⟨E2,hE,⟨hI.inv.ex_mono (fun _ _ h=>h.1),hI.tk,hI.yl,hI.mx,hI.n,hI.m⟩,by rw[hR.at_];exact h3,hR.bd (h4.less (by omega)),by rw[hR.P,hR.at_];exact h5,by rw[hR.P,hR.trips];exact h6,by rw[hR.L];exact h7,h8.trans hb⟩
theorem Xz(base:Nat)(s:Sc)(hs:s.ok)(sA:Option Addr)(sn sk x:Nat)(tick M:Int)(K:Nat)(E:Egs)(w:World)(H:Eg base s sA sn sk x E w)(hI:EI s tick M E (fun _=>False))(hk:∀ e∈E.l,e.k≠0)(t0:0<=tick)(tM:tick<=M)(p0:Pa)(P0:List Pa)(hP0:E.P=p0::P0)(hp0:p0.tick<=tick)(ht:Tab w)(hD:5<base)(hl:E.trips.length+E.P.length<=1000000)(hB:Bd M E 0 K)(hK:K<=99000):
  Calls prog 182 #[.pointer (some ⟨x,0,none⟩),O J tick] w (cQ base s sA sn sk x tick M K E w):=by
 have hn:=hI.n;have hM:=hI.m;have HH:=ze H;have HI:=ze hI;have HB:=ze hB;have HKN:=ze hk;have HP0:=ze hP0;have HT:=ze ht;have HL:=ze hl;obtain⟨A,c,hcv⟩:=H.cvs;obtain⟨⟨x0,-,-,-,-⟩,-,-⟩:=H.cells;obtain⟨⟨-,-,-,-,-,-,-,-,-,-,-,-,-,-,w14,-,-⟩,-⟩:=H.wd.bx.o17;rw[hcv]at w14;generalize hnn:E.L.length=n at*;have HNN:=ze hnn;clear H hI hB hk hP0 ht hl hcv hnn;go_enter func182,ntmps182;go_wp2_with fail
 go_loopw [14] (fun k wr=>∃ j:Nat,k=O J j/\j<=n/\ArrI base s sA sn sk x tick M E w j wr) (fun k _=>n-(intOf k).toNat)
 case atStart=>exact⟨0,rfl,Nat.zero_le _,E,HH.o,HI.o,SameC.refl E,fun i hi=>absurd hi (by omega),fi,fh⟩
 case round=>
  obtain⟨j,rfl,hj,E1,hE,hI,hS,hA,htd,hb⟩:=hrel;have HE:=ze hE;have HI1:=ze hI;have HS:=ze hS;have HA:=ze hA;have HTD:=ze htd;have HB1:=ze hb;have hlen:E1.L.length=n:=by rw[hS.len];exact HNN.o
  have HLEN:=ze hlen;have j0:(0:Int)<=(j:Int):=by omega
  clear hE hI hS hA htd hb hlen;by_cases hlt:j<n
  ·have j1:(j:Int)<(n:Int):=by omega
   have HADV:=ze (xj base s hs sA sn sk x tick M (fun _=>False) E1 wr HE.o HI1.o j (by have:=HLEN.o;omega) tick t0 tM (fun z a h1 h2=>HI1.o.can h1 h2 (fun h=>h) (fun e he _ _=>HI1.o.inv.low e he)) (fun e he _ _=>HI1.o.inv.low e he));clear x0 w14;go_wp2_with(go_at_call 141;refine HADV.o.mono ?_;rintro r w1 ⟨rfl,hb1,E2,hE2,hI2,hR⟩;have HX:=ze (ArrI.next HS.o HA.o HTD.o HB1.o HI1.o hE2 hI2 hR hb1);clear hb1 hE2 hI2 hR);go_roundw
   case rel=>exact⟨j+1,by go_num,by omega,HX.o⟩
   case measure=>simp[intOf];omega
  ·obtain rfl:n=j:=by omega
   have j1:¬ ((n:Int)<(n:Int)):=by omega
   obtain⟨W1,hW1⟩:∃ W1,W1=wr:=⟨_,rfl⟩;subst hW1;have hATT:∀ a∈E1.at_,tick<=a:=fun a ha=>by
    obtain⟨i,hi⟩:=List.getElem?_of_mem ha;exact HA.o i (by have h1:=(List.getElem?_eq_some_iff.1 hi).1;have h2:=HI1.o.inv.len;have h3:=HLEN.o;omega) a hi
   have HATT:=ze hATT;clear x0 w14 hATT;obtain⟨⟨x0,-,-,-,-⟩,-,-⟩:=HE.o.cells;obtain⟨⟨-,-,-,-,-,-,-,-,-,-,-,-,-,-,-,-,w16⟩,-,-,-,-,-,-,-,-,-,-,-,-,-,-,-,-,f16⟩:=HE.o.wd.bx.o17;go_wp2_with fail;obtain⟨tg2,hE2,hb2⟩:=HE.o.tick tick;have HE2:=ze hE2;have HB2:=ze (HB1.o.trans hb2);clear x0 w16 f16 hE2 hb2
   go_loopw [] (fun wr=>∃ E',ArrJ base s sA sn sk x tick M K E w wr E') (fun wr=>pLen x wr)
   case atStart=>
    have hS:=HS.o;refine⟨_,HE2.o,⟨HI1.o.inv.time HI1.o.inv.tT (Int.le_refl _),HI1.o.tk,HI1.o.yl,HI1.o.mx,HI1.o.n,HI1.o.m⟩,rfl,hS.l,hS.len,HATT.o,HB2.o,[],?_,?_,?_,?_⟩
    ·show E.P=[]++E1.P
     rw[hS.P];rfl
    ·show E1.trips.length=_
     rw[hS.trips];rfl
    ·show zM M E1.P E1.at_+0<=_
     exact HTD.o
    ·exact HB.o.same hS.HL hS.nm hS.S HTD.o
   case round=>
    obtain⟨E2,hJ⟩:=hrel;have HJ:=ze hJ;obtain⟨hE,-⟩:=hJ;obtain⟨⟨x0,x1,-,-,-⟩,fx,-⟩:=hE.cells;have hpl:=hE.pl;have HEE:=ze hE;clear HE HE2 HB1 HB2 HTD HI1 HS HA HATT HLEN;rcases hPP:E2.P with _|⟨p,P'⟩
    ·have HPP:=ze hPP;rw[hPP]at hpl;have hp1:E2.pn=0:=by simpa using hpl.1.symm
     rw[hp1]at x1;clear hPP hpl hp1 hE;obtain⟨W3,hW3⟩:∃ W3,W3=wr:=⟨_,rfl⟩;subst hW3;have HK0:=ze (ArrK.of_nil HP0.o HJ.o HPP.o);clear x0 fx HEE HJ HPP;go_upto_region 11 with(fail);clear x1;obtain⟨E3,hE3,-,-,-,-,-,hL3,-⟩:=HK0.o;obtain⟨A3,c3,hcv3⟩:=hE3.cvs;obtain⟨⟨x0,-,-,-,-⟩,-,-⟩:=hE3.cells;obtain⟨⟨-,-,-,-,-,-,-,-,-,-,-,-,-,-,w14,-,-⟩,-⟩:=hE3.wd.bx.o17;rw[hcv3,hL3,HNN.o]at w14;clear hE3 hL3 hcv3;go_wp2_with fail
     go_loopw [90] (fun k wr=>∃ j:Nat,k=O J j/\j<=n/\ArrK base s sA sn sk x tick M K E w j wr) (fun k _=>n-(intOf k).toNat)
     case atStart=>exact⟨0,rfl,Nat.zero_le _,HK0.o⟩
     case round=>
      obtain⟨j,rfl,hj,E4,hE,hI,hA,hBd,htd,htr,hlen,hb⟩:=hrel;have HE4:=ze hE;have HI4:=ze hI;have HA4:=ze hA;have HBD:=ze hBd;have HTD:=ze htd;have HTR:=ze htr;have HLEN:=ze hlen;have HB4:=ze hb;have j0:(0:Int)<=(j:Int):=by omega
      clear hE hI hA hBd htd htr hlen hb;by_cases hlt:j<n
      ·have j1:(j:Int)<(n:Int):=by omega
       have HPLN:=ze (xl base s hs sA sn sk x tick M (fun _=>False) E4 wr HE4.o HI4.o j (by have h1:=HLEN.o;have h2:=HNN.o;omega) (fun a ha=>HA4.o a (List.mem_of_getElem? ha)) HBD.o hK);clear x0 w14;go_wp2_with(go_at_call 218;refine HPLN.o.mono ?_;rintro r w1 ⟨rfl,hb1,E5,hE5,hI5,hR⟩;have HX:=ze (ArrK.next (by omega) HA4.o HBD.o HTD.o HTR.o HLEN.o HB4.o hE5 hI5 hR hb1);clear hb1 hE5 hI5 hR);go_roundw
       case rel=>exact⟨j+1,by go_num,by omega,HX.o⟩
       case measure=>simp[intOf];omega
      ·have j1:¬ ((j:Int)<(n:Int)):=by omega
       clear x0 w14;go_wp2_with fail;go_end0;exact⟨rfl,HB4.o,E4,HE4.o,HI4.o,HBD.o.less (Nat.zero_le _),HTD.o,HTR.o,HLEN.o⟩
    ·have HPP:=ze hPP;rw[hPP]at hpl;have hpe:=hE.pe;rw[hPP]at hpe;obtain⟨B,off,hA,hBl,hcell⟩:=hpe.2 (by have:=hpl.1;simp at this;omega);have q0:wr.cell? ⟨B,off,none⟩=some (O J p.id):=hcell 0 _ rfl;have q1:wr.cell? ⟨B,off+1,none⟩=some (O J p.tick):=hcell 1 _ rfl;have q2:wr.cell? ⟨B,off+2,none⟩=some (O J p.frm):=hcell 2 _ rfl;have q3:wr.cell? ⟨B,off+3,none⟩=some (O J p.to_):=hcell 3 _ rfl;have hp1:E2.pn=P'.length+1:=by simpa using hpl.1.symm
     rw[hp1,hA]at x1;have hpc:P'.length+1<=E2.pc:=by have:=hpl.2;omega
     have HAA:=ze hA;have HPN:=ze hp1;clear hPP hpl hpe hA hcell hp1 hE;by_cases htk:p.tick<=tick
     ·have d0:decide (p.tick<=tick)=true:=by simpa using htk
      have HTK:=ze htk;clear htk;have HADM:=ze (show Calls prog 142 #[.pointer (some ⟨E2.wb,0,none⟩),.agg #[O J p.id,O J p.tick,O J p.frm,O J p.to_]] wr.drew (dD base s sA sn sk x tick M (fun _=>False) E2 p P' wr.drew)from by
       obtain⟨-,k0,k1,k2,k3,k4,k5,pre,k6,k7,k8,k9⟩:=HJ.o;exact bw hs (HEE.o.below fh.drew) k0 HPP.o (fun e he=>HKN.o e (by rw[<-k2];exact he)) (by rw[k1];exact HTK.o) ((HT.o.below k5 hD).below fh.drew (Nat.lt_of_lt_of_le hD HEE.o.bs)) hD (by have h1:=HL.o;have h2:=congrArg List.length k6;rw[List.length_append]at h2;omega) k9 hK)
      have hdb:Below base wr wr.drew:=fh.drew;have HDB:=ze hdb;clear hdb;go_upto_region 7 with(fail)
      go_cut [] (fun wx=>∃ S' tv' trips' t',Eg base s sA sn sk x {E2 with S:=S',tv:=tv',trips:=trips',tag:=t'} wx/\EI s tick M {E2 with S:=S',tv:=tv',trips:=trips',tag:=t',P:=P'} (fun _=>False)/\S'.nw<=E2.S.nw+1/\S'.nc<=E2.S.nc+1/\trips'.length=E2.trips.length+1/\Below base wr wx)
      case first=>
       go_region_with (go_at_call 142;(with_reducible refine HADM.o.mono ?_);rintro r w7 ⟨rfl,hb7,S',tv',trips',t',hE7,hI7,h71,h72,h73⟩;have HB7:=ze hb7;have HE7:=ze hE7;have HI7:=ze hI7;clear hb7 hE7 hI7 x0 x1 q0 q1 q2 q3)
       all_goals(
        go_wp2_with fail
        go_meet
        exact⟨S',tv',trips',t',HE7.o,HI7.o,h71,h72,h73,HDB.o.trans HB7.o⟩)
      case rest=>
      obtain⟨S',tv',trips',t',hE7,hI7,h71,h72,h73,hb7⟩:=hcut;obtain⟨W7,hW7⟩:∃ W7,W7=wc:=⟨_,rfl⟩;subst hW7;clear x0 x1 q0 q1 q2 q3 fx HADM HDB;have HE7:=ze hE7;have HI7:=ze hI7;have HB7:=ze hb7;obtain⟨⟨x0,x1,-,-,-⟩,fx,-⟩:=hE7.cells;dsimp only at x0 x1;rw[HPN.o,HAA.o]at x1;clear hE7 hI7 hb7 x0;by_cases hc:E2.pc=1
      ·obtain rfl:P'=[]:=List.eq_nil_of_length_eq_zero (by omega);have h9:=HE7.o.next HPP.o HAA.o;dsimp only at h9;simp only[hc,HPN.o,if_true,List.length_nil,Nat.zero_add,Nat.add_sub_cancel,Nat.sub_self]at h9;have HE9:=ze h9;rw[hc,List.length_nil,Nat.zero_add]at x1;have HC:=ze hc;clear h9 hc hpc;go_wp2_with fail;go_roundw
       case rel=>exact⟨_,HJ.o.next HPP.o HE9.o.1 ⟨HI7.o.inv,HI7.o.tk,HI7.o.yl,HI7.o.mx,HI7.o.n,HI7.o.m⟩ rfl rfl rfl rfl rfl h73 rfl rfl h71 h72 (HB7.o.trans HE9.o.2)⟩
       case measure=>rw[HE9.o.1.pLen,HEE.o.pLen,HPP.o];simp
      ·have h9:=HE7.o.next HPP.o HAA.o;dsimp only at h9;simp only[if_neg hc,HPN.o,Nat.add_sub_cancel]at h9;have HE9:=ze h9;have hc2:¬ 1=E2.pc:=fun e=>hc e.symm
       clear h9;go_wp2_with fail;go_roundw
       case rel=>exact⟨_,HJ.o.next HPP.o HE9.o.1 ⟨HI7.o.inv,HI7.o.tk,HI7.o.yl,HI7.o.mx,HI7.o.n,HI7.o.m⟩ rfl rfl rfl rfl rfl h73 rfl rfl h71 h72 (HB7.o.trans HE9.o.2)⟩
       case measure=>rw[HE9.o.1.pLen,HEE.o.pLen,HPP.o];simp
     ·have d0:decide (p.tick<=tick)=false:=by simpa using htk
      have HTK:=ze htk;have hpo:=HJ.o.2.1.inv.ps.ok p (by rw[HPP.o];exact List.mem_cons_self ..);have HBE:=ze (HJ.o.2.1);obtain⟨W3,hW3⟩:∃ W3,W3=wr:=⟨_,rfl⟩;subst hW3;have HSET:=ze (show Calls prog 139 #[.pointer (some ⟨x,2,none⟩),O J 0,O J 0,O J p.tick] W3.drew fun r w'=>r=.returned (.tuple #[])/\bj x E2.F E2.g E2.nm E2.m E2.HL E2.l ⟨p.tick,0,0⟩ W3.drew w' from by
       obtain⟨-,k0,k1,k2,k3,k4,k5,pre,k6,k7,k8,k9⟩:=HJ.o;have h1:=k9.hl;have h2:=k9.nm;exact Qr (F:=E2.F) x E2.g E2.nm E2.HL.length E2.m E2.HL E2.l ⟨p.tick,0,0⟩ W3.drew (HEE.o.cs.below fh.drew) rfl (by omega) (by omega) ⟨zQ (by show(-1000000000:Int)<=p.tick;omega) (by show p.tick<=(1000000000:Int);omega),zQ (show(-1000000000:Int)<=0 by decide) (show(0:Int)<=1000000000 by decide),zQ (show(-1000000000:Int)<=0 by decide) (show(0:Int)<=1000000000 by decide)⟩)
      clear htk hpo HBE;go_upto_region 10 with(fail)
      go_cut [] (fun wx=>ArrK base s sA sn sk x tick M K E w 0 wx)
      case first=>
       go_region_with (go_at_call 139;(with_reducible refine HSET.o.mono ?_);rintro r w5 ⟨rfl,hP⟩;have HP:=ze hP;clear hP x0 x1 q0 q1 q2 q3)
       all_goals(
        go_wp2_with fail
        go_meet
        exact ArrK.of_set HP0.o hp0 HJ.o HPP.o (by have:=HTK.o;omega) HP.o)
      case rest=>
      have HK0:=ze hcut;clear hcut x0 x1 q0 q1 q2 q3 fx HSET HEE HJ HPP HAA HPN HTK d0;obtain⟨E3,hE3,-,-,-,-,-,hL3,-⟩:=HK0.o;obtain⟨A3,c3,hcv3⟩:=hE3.cvs;obtain⟨⟨x0,-,-,-,-⟩,-,-⟩:=hE3.cells;obtain⟨⟨-,-,-,-,-,-,-,-,-,-,-,-,-,-,w14,-,-⟩,-⟩:=hE3.wd.bx.o17;rw[hcv3,hL3,HNN.o]at w14;clear hE3 hL3 hcv3;go_wp2_with fail
      go_loopw [90] (fun k wr=>∃ j:Nat,k=O J j/\j<=n/\ArrK base s sA sn sk x tick M K E w j wr) (fun k _=>n-(intOf k).toNat)
      case atStart=>exact⟨0,rfl,Nat.zero_le _,HK0.o⟩
      case round=>
       obtain⟨j,rfl,hj,E4,hE,hI,hA,hBd,htd,htr,hlen,hb⟩:=hrel;have HE4:=ze hE;have HI4:=ze hI;have HA4:=ze hA;have HBD:=ze hBd;have HTD:=ze htd;have HTR:=ze htr;have HLEN:=ze hlen;have HB4:=ze hb;have j0:(0:Int)<=(j:Int):=by omega
       clear hE hI hA hBd htd htr hlen hb;by_cases hlt:j<n
       ·have j1:(j:Int)<(n:Int):=by omega
        have HPLN:=ze (xl base s hs sA sn sk x tick M (fun _=>False) E4 wr HE4.o HI4.o j (by have h1:=HLEN.o;have h2:=HNN.o;omega) (fun a ha=>HA4.o a (List.mem_of_getElem? ha)) HBD.o hK);clear x0 w14;go_wp2_with(go_at_call 218;refine HPLN.o.mono ?_;rintro r w1 ⟨rfl,hb1,E5,hE5,hI5,hR⟩;have HX:=ze (ArrK.next (by omega) HA4.o HBD.o HTD.o HTR.o HLEN.o HB4.o hE5 hI5 hR hb1);clear hb1 hE5 hI5 hR);go_roundw
        case rel=>exact⟨j+1,by go_num,by omega,HX.o⟩
        case measure=>simp[intOf];omega
       ·have j1:¬ ((j:Int)<(n:Int)):=by omega
        clear x0 w14;go_wp2_with fail;go_end0;exact⟨rfl,HB4.o,E4,HE4.o,HI4.o,HBD.o.less (Nat.zero_le _),HTD.o,HTR.o,HLEN.o⟩
structure EvJ(base:Nat)(s:Sc)(sA:Option Addr)(sn sk x:Nat)(tick M:Int)(K:Nat)(E:Egs)(w:World)(i j:Nat)(E':Egs)(wr:World):Prop where
 eg:Eg base s sA sn sk x E' wr
 ei:EI s tick M E' (fun k=>k=i/\j<=i)
 bd:Bd M E' (16-j) K
 len:E'.L.length=E.L.length
 td:zM M E'.P E'.at_+1<=zM M E.P E.at_
 tr:E'.trips.length+E'.P.length=E.trips.length+E.P.length
 ai:∀ a,E'.at_[i]?=some a->tick<=a
 be:∀ f∈E'.l,f.k=1->(j:Int)<=f.i->f.i<i->tick+1<=f.t
 b:Below base w wr
section
variable{base:Nat}{s:Sc}{sA:Option Addr}{sn sk x:Nat}{tick M:Int}{K:Nat}{E E1 E2:Egs}{w w1 w2:World}{i j:Nat}{b:Int}
theorem EvJ.skip(h:EvJ base s sA sn sk x tick M K E w i j E1 w1)(hj:j≠i):EvJ base s sA sn sk x tick M K E w i (j+1) E1 w1:=
 ⟨h.eg,⟨h.ei.inv.ex_mono (fun k _ hk=>⟨hk.1,by omega⟩),h.ei.tk,h.ei.yl,h.ei.mx,h.ei.n,h.ei.m⟩,h.bd.less (by omega),h.len,h.td,h.tr,h.ai,fun f hf h1 h2 h3=>h.be f hf h1 (by omega) h3,h.b⟩
theorem EvJ.adv(h:EvJ base s sA sn sk x tick M K E w i j E1 w1)(hj:j≠i)(hE:Eg base s sA sn sk x E2 w2)(hI:EI s tick M E2 (fun k=>k=i/\j<=i))(hR:AdvR E1 E2 j b)(hb:Below base w1 w2):EvJ base s sA sn sk x tick M K E w i j E2 w2:=
 ⟨hE,hI,h.bd.same hR.same.HL hR.same.nm hR.same.S (hR.td M),hR.same.len.trans h.len,Nat.le_trans (Nat.succ_le_succ (hR.td M)) h.td,by rw[hR.same.trips,hR.same.P];exact h.tr,fun a ha=>h.ai a (by rw[<-(hR.oth i (Ne.symm hj)).1];exact ha),fun f hf=>h.be f (by rw[<-hR.same.l];exact hf),h.b.trans hb⟩
theorem EvJ.pln(h:EvJ base s sA sn sk x tick M K E w i j E1 w1)(hj16:j<16)(hE:Eg base s sA sn sk x E2 w2)(hI:EI s tick M E2 (fun k=>(k=i/\j<=i)/\k≠j))(hR:PlnR E1 E2 j)(hb:Below base w1 w2):EvJ base s sA sn sk x tick M K E w i (j+1) E2 w2:=
 ⟨hE,⟨hI.inv.ex_mono (fun k _ hk=>⟨hk.1.1,by have:=hk.1;have:=hk.2;omega⟩),hI.tk,hI.yl,hI.mx,hI.n,hI.m⟩,hR.bd (h.bd.less (by omega)),by rw[hR.L];exact h.len,by rw[hR.P,hR.at_];exact h.td,by rw[hR.P,hR.trips];exact h.tr,by rw[hR.at_];exact h.ai,fun f hf h1 h2 h3=>by
  rcases hR.sub f hf with⟨-,h4⟩|h4
  ·omega
  ·exact h.be f h4 h1 (by omega) h3,h.b.trans hb⟩
end
theorem UC(base:Nat)(s:Sc)(hs:s.ok)(sA:Option Addr)(sn sk x:Nat)(tick M:Int)(K:Nat)(E:Egs)(w:World)(i:Nat)(H:Eg base s sA sn sk x E w)(hI:EI s tick M E (fun k=>k=i))(hi:i<E.L.length)(hc:∀ z a,E.L[i]?=some z->E.at_[i]?=some a->CarT s.gap z.c a tick)(hbe:∀ f∈E.l,f.k=1->f.i≠i/\(f.i<i->tick+1<=f.t))(t0:0<=tick)(tM:tick+1<=M)(hl:E.trips.length<=1000000)(hB:Bd M E 0 K)(hK:K<=99000):
  Calls prog 183 #[.pointer (some ⟨x,0,none⟩),O J (i:Int),O J tick] w (cQ base s sA sn sk x tick M K E w):=by
 have hn:=hI.n;have hM:=hI.m;have HI:=ze hI;have HB:=ze hB;have HL:=ze hl;have HC:=ze hc;have HBE:=ze hbe;have i0:(0:Int)<=(i:Int):=by omega
 have HADV:=ze (xj base s hs sA sn sk x tick M (fun k=>k=i) E w H hI i hi tick t0 (by omega) (fun z a h1 h2 _=>⟨tick,hc z a h1 h2,Int.le_refl _⟩) (fun e he h1 h2=>absurd h2 (hbe e he h1).1));clear hI hB hl hc hbe H;generalize hnn:E.L.length=n at*;have HNN:=ze hnn;clear hnn;go_enter func183,ntmps183;go_upto_region 1 with(go_at_call 141;refine HADV.o.mono ?_;rintro r w1 ⟨rfl,hb1,E1,hE1,hI1,hR1⟩;have HE1:=ze hE1;have HI1:=ze hI1;have HR1:=ze hR1;have HB1:=ze hb1;clear hE1 hI1 hR1 hb1);obtain⟨wb,h,S,cv,tv,L,trips,T,F,g,m,nm,HLh,l,pA,pn,pc,P,ab,at_,yb,yn,yc,Y,G,evn,tag⟩:=E1;have hSame:=HR1.o.same;have hLl:L.length=n:=hSame.len.trans HNN.o;have hiL:i<L.length:=by omega
 obtain⟨z,a,bu,hz,ha,hbu,hbt,hcw,ha0,haM⟩:=HI1.o.at_ hiL;dsimp only at hz ha hbu;have haa:a=tick:=by
  obtain⟨z0,a0,bu0,hz0,ha0',-,-,-,-,-⟩:=HI.o.at_ (by rw[HNN.o];exact hi);have h1:=HR1.o.at_ a0 ha0';have h2:=(HC.o z0 a0 hz0 ha0').le;dsimp only at h1;rw[ha]at h1;have:=Option.some.inj h1;omega
 obtain⟨gc,ck,hcv,-,-,hck,-,-⟩:=HE1.o.wd.cr.at_ (show 0<L.length by omega);dsimp only at hcv hck;subst hcv;have hL16:L.length<=16:=by omega
 have HAA:=ze haa;have HLL:=ze hLl;have HZ:=ze hz;have HA:=ze ha;have HBU:=ze hbu;have HBT:=ze hbt;have HCW:=ze hcw;clear haa hLl hz ha hbu hbt hcw ha0 haM hSame;obtain⟨tg2,hE2,hb2⟩:=HE1.o.tick tick;have HB2:=ze (HB1.o.trans hb2);have HE2:=ze hE2;obtain⟨⟨x0,-,-,-,-⟩,-,-⟩:=HE1.o.cells;obtain⟨⟨-,-,-,-,-,-,-,-,-,-,-,-,-,-,-,-,w16⟩,-,-,-,-,-,-,-,-,-,-,-,-,-,-,-,-,f16⟩:=HE1.o.wd.bx.o17;dsimp only at x0 w16 f16;clear hE2 hb2 HADV;go_upto_region 2 with(fail);refine kx (W:=w1.setCell ⟨wb,16,none⟩ (O J tick)) (fun V=>Eg base s sA sn sk x ⟨wb,h,S,.slice (some ⟨gc,0,none⟩) L.length ck,tv,L,trips,tick,F,g,m,nm,HLh,l,pA,pn,pc,P,ab,at_,yb,yn,yc,Y,G,evn,tg2⟩ V/\Below base w V) ⟨HE2.o,HB2.o⟩ ?_;clear HE2 HB2 x0 w16 f16;rintro W2 ⟨hE2,hb2⟩;have HE2:=ze hE2;have HB2:=ze hb2;have HINV:=ze (HI1.o.inv.time HI1.o.inv.tT (Int.le_refl _));have HBD:=ze (HB.o.same HR1.o.same.HL HR1.o.same.nm HR1.o.same.S (HR1.o.td M));have HST:=ze (show Calls prog 143 #[.pointer (some ⟨wb,0,none⟩),O J (i:Int)] W2 (Uw base s sA sn sk wb h W2 S (.slice (some ⟨gc,0,none⟩) L.length ck) tv L trips tick i z)from by
  have hv:=HINV.o.inv;have h1:=HBD.o.nw;have h2:=HR1.o.same.trips;dsimp only at h1 h2 hv;have hl2:trips.length<=1000000:=by rw[h2];exact HL.o
  have hzl:z.l∈L.map (·.l):=List.mem_map.2 ⟨z,List.mem_of_getElem? HZ.o,rfl⟩;exact GM base s hs sA sn sk wb h W2 S gc L.length ck tv L trips tick i z hE2.wd rfl hck (by omega) HZ.o (hE2.wd.oks hs HINV.o.car z (List.mem_of_getElem? HZ.o)) ⟨HCW.o.m0,HCW.o.m1⟩ HCW.o.lf (by omega) (fun r hr=>⟨(hv.ri _ hzl r hr).1,(hv.ri _ hzl r hr).2.1⟩) (fun k y hy=>⟨(hv.wt k y hy).1,(hv.wt k y hy).2.1⟩) (by omega))
 obtain⟨⟨x0,-,-,-,-⟩,-,-⟩:=HE2.o.cells;dsimp only at x0;clear hE2 hb2;go_upto_region 3 with(go_at_call 143;(with_reducible refine HST.o.mono ?_);rintro r w3 ⟨gone,y,S3,trips3,rfl,hN,h31,h32,hr⟩;have HN:=ze hN;have HR:=ze hr;have H31:=ze h31;have H32:=ze h32;clear hN hr h31 h32 x0);have hE3:=HE2.o.world HN.o;have HE3:=ze hE3.1;have HB3:=ze (HB2.o.trans hE3.2);have hiy:(L.set i y)[i]?=some y:=by rw[List.getElem?_set,if_pos rfl,if_pos hiL]
 have hly:(L.set i y).length=L.length:=List.length_set ..;have hEI3:=HINV.o.step hs HZ.o rfl (fun e he hx=>(HBE.o e (by rw[<-HR1.o.same.l];exact he) hx.1).1 hx.2) HR.o;have HEI3:=ze hEI3;have hyw:=hEI3.car y (List.mem_of_getElem? hiy);have hgap:=hs.gap;have p0:=hyw.p0;have p1:=hyw.p1;have HCR:=ze HE3.o.wd.cr;have HIY:=ze hiy;obtain⟨⟨x0,-,x4,x5,-⟩,-,-⟩:=HE3.o.cells;obtain⟨⟨-,-,-,-,-,-,-,-,-,-,-,-,-,-,w14,-,-⟩,-⟩:=HE3.o.wd.bx.o17;dsimp only at x0 x4 x5 w14;obtain⟨r0,-⟩:=HCR.o.elem_cell zh hly hiy (show 0<6 by omega) rfl;obtain⟨r1,-⟩:=HCR.o.elem_cell zh hly hiy (show 1<6 by omega) rfl;obtain⟨r2,-⟩:=HCR.o.elem_cell zh hly hiy (show 2<6 by omega) rfl;obtain⟨r3,-⟩:=HCR.o.elem_cell zh hly hiy (show 3<6 by omega) rfl;obtain⟨r4,-⟩:=HCR.o.elem_cell zh hly hiy (show 4<6 by omega) rfl;obtain⟨r5,-⟩:=HCR.o.elem_cell zh hly hiy (show 5<6 by omega) rfl;have r0:w3.cell? ⟨gc,i*6,none⟩=some (O J y.c.pos):=r0;have hiyn:i<yn:=by have h1:=HE3.o.yl.1;have h2:=(List.getElem?_eq_some_iff.1 HBU.o).1;dsimp only at h1;omega
 have hynk:=HE3.o.yl.2;dsimp only at hynk;have hia:i<at_.length:=(List.getElem?_eq_some_iff.1 HA.o).1;obtain⟨lg,-,hway⟩:=HE3.o.wy i bu HBU.o;have HWAY:=ze hway;have hbt9:bu.t+1<=10000000:=by have h1:=HBT.o;have h2:=HAA.o;omega
 have q0: -100000<=y.c.pos:=by omega
 have q1:y.c.pos<=100000:=by omega
 have HADD:=ze (fun d W(hb:Below w3.heap.size w3 W)=>Jt base yb yn yc Y i bu lg y.c.pos 0 1 d W (HWAY.o.below hb) q0 q1 (by omega) (by omega) (by omega) (by omega) hbt9);clear hE3 hiy hly hEI3 hyw hgap p0 p1 hway hbt9 HST;have i1:(i:Int)<(L.length:Int):=by omega
 have i2:(i:Int)<(yn:Int):=by omega
 have i3:(i:Int)<(at_.length:Int):=by omega
 obtain⟨c,A,rn,rk,rl⟩:=y;dsimp only at r0 r1 r2 r3 r4 r5 q0 q1;go_upto_region 4 with(fail);refine zq (w:=w3) (fun V=>Bx V w3.heap.size (c.lv (.slice A rn rk))/\w3.heap.size<V.heap.size) ⟨Bx.new w3 (c.lv (.slice A rn rk)) 265,by simp⟩ ((Below.refl w3.heap.size w3).alloc fi _) ?_;rintro V ⟨hq,hzV⟩ hbV;have HQ:=ze hq;have HBV:=ze hbV;have x5v:=zf hbV x5;clear hq hbV r0 r1 r2 r3 r4 r5 x0 x4 x5 w14;obtain⟨⟨c0,c1,c2,c3,c4,c5⟩,-⟩:=HQ.o.o6;have HDR:=ze (fun W=>Kc c A rn rk W)
 go_cut [] (fun wx=>∃(b':Bu)(l':List Lg),WayP w3 base yb yn yc Y i bu 1 wx b' l')
 case first=>
  go_region_with (first
   |(go_at_call 145;(with_reducible refine(HDR.o _).mono ?_);rintro r w4 ⟨⟨d,rfl⟩,hb4⟩;have HB4:=ze (show Below V.heap.size V w4 from(Below.refl V.heap.size V).drew.trans hb4);have HBW:=ze (HBV.o.trans (HB4.o.mono (by omega)));have x5b:=zf HB4.o x5v;have c0b:=zf HB4.o c0;clear hb4)
   |(go_at_call 144;(with_reducible refine(HADD.o d _ HBW.o).mono ?_);rintro r w5 ⟨rfl,b',l',hP⟩;have HP:=ze hP;clear hP))
  all_goals(
   go_wp2_with fail
   go_meet
   exact⟨b',l',WayP.from_ HBW.o HP.o⟩)
 case rest=>
 obtain⟨b',l',hP⟩:=hcut;obtain⟨W4,hW4⟩:∃ W4,W4=wc:=⟨_,rfl⟩;subst hW4;have hE4:=HE3.o.way HBU.o hP;have HE4:=ze hE4.1;have HB4:=ze (HB3.o.trans hE4.2);have HPT:=ze hP.t;obtain⟨⟨-,-,x4,-,-⟩,-,-⟩:=HE4.o.cells;obtain⟨a4,-,ac,af⟩:=HE4.o.ao.int_at rfl hia;dsimp only at x4 ac af;have t1:tick+1<=1000001:=by omega
 clear hE4 hP c0 c1 c2 c3 c4 c5 x5v HQ HBV HADD HDR;have hE5:=HE4.o.through i (tick+1);have HJ:=ze (show EvJ base s sA sn sk x tick M K E w i 0 _ (W4.setCell ⟨ab,i,none⟩ (O J (tick+1)))from by
  have hsm:=HR1.o.same;have htd:=HR1.o.td M;have htl:=Uy (P:=P) HA.o (show a<tick+1 by have:=HAA.o;omega) tM;obtain⟨b1,b2,b3,b4⟩:=HBD.o;have h31:=H31.o;have h32:=H32.o;refine⟨hE5.1,⟨?_,?_,?_,?_,?_,hM⟩,⟨?_,?_,?_,?_⟩,?_,?_,?_,?_,?_,HB4.o.trans hE5.2⟩
  ·exact(HEI3.o.tick HA.o (by have:=HAA.o;omega) (fun e he hx=>(HBE.o e (by rw[<-hsm.l];exact he) hx.1).1 hx.2)).ex_mono (fun k _ h=>⟨h,Nat.zero_le _⟩)
  ·intro k bk ak hk1 hk2;dsimp only at hk1 hk2;rcases zx hk1 with⟨rfl,rfl,-⟩|⟨hne,hk1⟩
   ·rcases zx hk2 with⟨-,rfl,-⟩|⟨hne,-⟩
    ·have h1:=HPT.o;have h2:=HBT.o;have h3:=HAA.o;omega
    ·exact absurd rfl hne
   ·rcases zx hk2 with⟨rfl,-,-⟩|⟨-,hk2⟩
    ·exact absurd rfl hne
    ·exact HI1.o.tk k bk ak hk1 hk2
  ·show(Y.set i b').length=(L.set i _).length
   rw[List.length_set,List.length_set];exact HI1.o.yl
  ·intro z' hz';obtain⟨k,hk⟩:=List.getElem?_of_mem hz';dsimp only at hk;rcases zx hk with⟨-,rfl,-⟩|⟨-,hk⟩
   ·exact tM
   ·exact HI1.o.mx z' (List.mem_of_getElem? hk)
  ·show(L.set i _).length<=16
   rw[List.length_set];exact hL16
  ·show HLh.length+(16-0)+18*zM M P (at_.set i (tick+1))<=K
   dsimp only at b1;omega
  ·show nm+(16-0)+18*zM M P (at_.set i (tick+1))<=K
   dsimp only at b2;omega
  ·show S3.nw+(16-0)+18*zM M P (at_.set i (tick+1))<=K
   dsimp only at b3;omega
  ·show S3.nc+(16-0)+18*zM M P (at_.set i (tick+1))<=K
   dsimp only at b4;omega
  ·show(L.set i _).length=_
   rw[List.length_set];exact hsm.len
  ·show zM M P (at_.set i (tick+1))+1<=_
   dsimp only at htd;omega
  ·show trips3.length+P.length=_
   have h1:=hsm.trips;have h2:=hsm.P;dsimp only at h1 h2;rw[HR.o.len,<-h1,<-h2]
  ·intro a' ha';dsimp only at ha';rw[List.getElem?_set,if_pos rfl,if_pos hia]at ha';cases ha';omega
  ·intro f hf h1 h2 h3;exact(HBE.o f (by rw[<-hsm.l];exact hf) h1).2 h3)
 clear hE5;go_upto_region 6 with(fail);refine kx (W:=W4.setCell ⟨ab,i,none⟩ (O J (tick+1))) (fun V=>∃ E5,EvJ base s sA sn sk x tick M K E w i 0 E5 V) ⟨_,HJ.o⟩ ?_;clear HJ x4 ac af;rintro W5 ⟨E5,hJ⟩;have HJ:=ze hJ;obtain⟨A3,c3,hcv3⟩:=hJ.eg.cvs;obtain⟨⟨x0,-,-,-,-⟩,-,-⟩:=hJ.eg.cells;obtain⟨⟨-,-,-,-,-,-,-,-,-,-,-,-,-,-,w14,-,-⟩,-⟩:=hJ.eg.wd.bx.o17;rw[hcv3,hJ.len,HNN.o]at w14;clear hJ hcv3 HE1 HI1 HR1 HB1 HE2 HB2 HINV HBD HN HR H31 H32 HE3 HB3 HEI3 HCR HIY HWAY HE4 HB4 HPT;go_wp2_with fail
 go_loopw [64] (fun k wr=>∃(j:Nat)(E':Egs),k=O J j/\j<=n/\EvJ base s sA sn sk x tick M K E w i j E' wr) (fun k _=>n-(intOf k).toNat)
 case atStart=>exact⟨0,E5,rfl,Nat.zero_le _,HJ.o⟩
 case round=>
  obtain⟨j,E6,rfl,hj,hJ⟩:=hrel;have HJ6:=ze hJ;have j0:(0:Int)<=(j:Int):=by omega
  clear hJ x0 w14 HJ;by_cases hlt:j<n
  ·have j1:(j:Int)<(n:Int):=by omega
   have hjl:j<E6.L.length:=by have h1:=HJ6.o.len;have h2:=HNN.o;omega
   by_cases hij:j=i
   ·subst hij;have e1:((j:Int)==(j:Int))=true:=by simp
    have HPLN:=ze (xl base s hs sA sn sk x tick M (fun k=>k=j/\j<=j) E6 wr HJ6.o.eg HJ6.o.ei j hjl (fun a ha=>HJ6.o.ai a ha) HJ6.o.bd hK);go_wp2_with(go_at_call 218;refine HPLN.o.mono ?_;rintro r w8 ⟨rfl,hb8,E8,hE8,hI8,hR8⟩;have HX:=ze (HJ6.o.pln (by omega) hE8 hI8 hR8 hb8);clear hb8 hE8 hI8 hR8);go_roundw
    case rel=>exact⟨j+1,E8,by go_num,by omega,HX.o⟩
    case measure=>simp[intOf];omega
   ·have e1:((j:Int)==(i:Int))=false:=by simp;omega
    have HIJ:=ze hij;cases gone with
    |false=>
     clear hij;go_wp2_with fail;go_roundw
     case rel=>exact⟨j+1,E6,by go_num,by omega,HJ6.o.skip HIJ.o⟩
     case measure=>simp[intOf];omega
    |true=>
     by_cases hlt2:j<i
     ·clear hij;have e2:decide ((j:Int)<(i:Int))=true:=by simp;omega
      have HGE:=ze (fun(E7:Egs)(hR7:AdvR E6 E7 j (tick+1))=>(show∀a,E7.at_[j]?=some a->tick<=a from fun a ha=>by obtain⟨z1,a1,b1,k1,k2,-⟩:=HJ6.o.ei.at_ hjl;have:=hR7.at_ a1 k2;rw[this]at ha;cases ha;omega));have HEE:=ze (show∀e∈E6.l,e.k=1->e.i=j->tick+1<=e.t from fun e he h1 h2=>HJ6.o.be e he h1 (by omega) (by omega));have HADV:=ze (xj base s hs sA sn sk x tick M (fun k=>k=i/\j<=i) E6 wr HJ6.o.eg HJ6.o.ei j hjl (tick+1) (by omega) (by omega) (fun z a h1 h2=>HJ6.o.ei.can h1 h2 (fun h=>HIJ.o h.1) HEE.o) HEE.o);go_wp2_with(first|(go_at_call 141;refine HADV.o.mono ?_;rintro r w7 ⟨rfl,hb7,E7,hE7,hI7,hR7⟩;have HJ7:=ze (HJ6.o.adv HIJ.o hE7 hI7 hR7 hb7);have HPLN:=ze (xl base s hs sA sn sk x tick M (fun k=>k=i/\j<=i) E7 w7 hE7 hI7 j (by have:=hR7.same.len;omega) (HGE.o E7 hR7) HJ7.o.bd hK);clear hb7 hE7 hI7 hR7)|(go_at_call 218;refine HPLN.o.mono ?_;rintro r w8 ⟨rfl,hb8,E8,hE8,hI8,hR8⟩;have HX:=ze (HJ7.o.pln (by omega) hE8 hI8 hR8 hb8);clear hb8 hE8 hI8 hR8));go_roundw
      case rel=>exact⟨j+1,E8,by go_num,by omega,HX.o⟩
      case measure=>simp[intOf];omega
     ·have hgt:i<j:=by omega
      clear hij hlt2;have e2:decide ((j:Int)<(i:Int))=false:=by simp;omega
      have HGE:=ze (fun(E7:Egs)(hR7:AdvR E6 E7 j (tick))=>(show∀a,E7.at_[j]?=some a->tick<=a from fun a ha=>by obtain⟨z1,a1,b1,k1,k2,-⟩:=HJ6.o.ei.at_ hjl;have:=hR7.at_ a1 k2;rw[this]at ha;cases ha;omega));have HEE:=ze (show∀e∈E6.l,e.k=1->e.i=j->tick<=e.t from fun e he h1 h2=>HJ6.o.ei.inv.low e he);have HADV:=ze (xj base s hs sA sn sk x tick M (fun k=>k=i/\j<=i) E6 wr HJ6.o.eg HJ6.o.ei j hjl (tick) (by omega) (by omega) (fun z a h1 h2=>HJ6.o.ei.can h1 h2 (fun h=>HIJ.o h.1) HEE.o) HEE.o);go_wp2_with(first|(go_at_call 141;refine HADV.o.mono ?_;rintro r w7 ⟨rfl,hb7,E7,hE7,hI7,hR7⟩;have HJ7:=ze (HJ6.o.adv HIJ.o hE7 hI7 hR7 hb7);have HPLN:=ze (xl base s hs sA sn sk x tick M (fun k=>k=i/\j<=i) E7 w7 hE7 hI7 j (by have:=hR7.same.len;omega) (HGE.o E7 hR7) HJ7.o.bd hK);clear hb7 hE7 hI7 hR7)|(go_at_call 218;refine HPLN.o.mono ?_;rintro r w8 ⟨rfl,hb8,E8,hE8,hI8,hR8⟩;have HX:=ze (HJ7.o.pln (by omega) hE8 hI8 hR8 hb8);clear hb8 hE8 hI8 hR8));go_roundw
      case rel=>exact⟨j+1,E8,by go_num,by omega,HX.o⟩
      case measure=>simp[intOf];omega
  ·have j1:¬ ((j:Int)<(n:Int)):=by omega
   go_wp2_with fail;go_end0;have h:=HJ6.o;exact⟨rfl,h.b,E6,h.eg,⟨h.ei.inv.ex_mono (fun k _ hk=>by have:=hk.2;omega),h.ei.tk,h.ei.yl,h.ei.mx,h.ei.n,h.ei.m⟩,h.bd.less (Nat.zero_le _),h.td,h.tr,h.len⟩
def StpQ(base:Nat)(s:Sc)(sA:Option Addr)(sn sk x:Nat)(tau M:Int)(K:Nat)(E:Egs)(w:World)(e:Ending)(w':World):Prop:=
 Below base w w'/\((e=.returned (.bool false)/\∃ E',Eg base s sA sn sk x E' w'/\EI s tau M E' (fun _=>False)/\(∀f∈E'.l,M<=f.t)/\E'.L.length=E.L.length/\E'.trips.length+E'.P.length=E.trips.length+E.P.length)\/
  (e=.returned (.bool true)/\∃ tau' E',tau'<=M/\Eg base s sA sn sk x E' w'/\EI s tau' M E' (fun _=>False)/\Bd M E' 0 K/\zM M E'.P E'.at_+1<=zM M E.P E.at_/\E'.trips.length+E'.P.length=E.trips.length+E.P.length/\E'.L.length=E.L.length))
theorem CPeek.cons{p g n:Nat}{F:Fr}{m:Option Nat}{L:List En}{a k i:Int}{l:List En}{w w':World}{e:Ending}(h:CPeek p F g n m L (⟨a,k,i⟩::l) w e w'):e=.returned (.tuple #[.agg #[O J a,O J k,O J i],.bool true])/\∃ L',Cs w' p F g m n L' (⟨a,k,i⟩::l)/\L'.length<=L.length/\But (Xb p g m) w w':=by
 obtain⟨rfl,L',h1,-,h3,h4⟩:=h;exact⟨by simp[zA],L',h1,h3,h4⟩
theorem StpQ.yes{base:Nat}{s:Sc}{sA:Option Addr}{sn sk x:Nat}{tau t' M:Int}{K:Nat}{E E1:Egs}{w w1 w':World}{e:Ending}(hb:Below base w w1)(h:cQ base s sA sn sk x t' M K E1 w1 e w')(h1:E1.P=E.P)(h2:E1.at_=E.at_)(h3:E1.trips=E.trips)(h4:E1.L=E.L)(h5:t'<=M):e=.returned (.tuple #[])/\StpQ base s sA sn sk x tau M K E w (.returned (.bool true)) w':=by
 obtain⟨rfl,hb1,E',k1,k2,k3,k4,k5,k6⟩:=h;rw[h1,h2]at k4;rw[h3,h1]at k5;rw[h4]at k6;exact⟨rfl,hb.trans hb1,.inr ⟨rfl,t',E',h5,k1,k2,k3,k4,k5,k6⟩⟩
theorem StpQ.later{base:Nat}{s:Sc}{sA:Option Addr}{sn sk x:Nat}{tau M:Int}{K:Nat}{E:Egs}{w w1 w':World}{e:Ending}(h:StpQ base s sA sn sk x tau M K E w e w1)(hb:Below w1.heap.size w1 w'):StpQ base s sA sn sk x tau M K E w e w':=by
 obtain⟨h1,h2⟩:=h;rcases h2 with⟨h3,E',k1,k2⟩|⟨h3,t',E',k0,k1,k2⟩
 ·exact⟨h1.trans (hb.mono k1.bs),.inl ⟨h3,E',k1.below hb,k2⟩⟩
 ·exact⟨h1.trans (hb.mono k1.bs),.inr ⟨h3,t',E',k0,k1.below hb,k2⟩⟩
structure StH(base:Nat)(s:Sc)(sA:Option Addr)(sn sk x:Nat)(tau M:Int)(K:Nat)(E:Egs)(w:World):Prop where
 ok:s.ok
 H:Eg base s sA sn sk x E w
 I:EI s tau M E (fun _=>False)
 L:E.trips.length+E.P.length<=1000000
 B:Bd M E 0 K
 K9:K<=99000
 T:Tab w
 D:5<base
section
variable{base:Nat}{s:Sc}{sA:Option Addr}{sn sk x:Nat}{tau M:Int}{K:Nat}{E:Egs}{w:World}
theorem StH.pk(Z:StH base s sA sn sk x tau M K E w){l:List En}(hl:E.l=l):Calls prog 180 #[.pointer (some ⟨x,2,none⟩)] w (CPeek x E.F E.g E.nm E.m E.HL l w):=by
 subst hl;exact kY (F:=E.F) x E.g E.nm E.HL.length E.m E.HL E.l w Z.H.cs rfl (by have:=Z.B.hl;have:=Z.K9;omega)
theorem Qw(Z:StH base s sA sn sk x tau M K E w)(hel:E.l=[]):
  Calls prog 140 #[.pointer (some ⟨x,0,none⟩),O J M] w (StpQ base s sA sn sk x tau M K E w):=by
 have HPK:=ze (Z.pk hel);have HEL:=ze hel;have hK:=Z.K9;clear hel;go_enter func140,ntmps140;go_wp2_with(go_at_call 180;(with_reducible refine HPK.o.mono ?_);rintro r w1 ⟨rfl,L1,hC,-,hL1,hb⟩;have HC:=ze hC;have HBB:=ze hb;have HL1:=ze hL1;clear hC hL1 hb);go_ret;rw[<-HEL.o]at HC;have hE:=Z.H.cal HC.o HBB.o (fun k _ h=>h);have hb:=(Below.refl w1.heap.size w1).alloc fi (.cells #[O J 0,O J 0,O J 0] 312);refine⟨hE.2.trans (hb.mono hE.1.bs),.inl ⟨rfl,_,hE.1.below hb,⟨Z.I.inv,Z.I.tk,Z.I.yl,Z.I.mx,Z.I.n,Z.I.m⟩,fun f hf=>?_,rfl,rfl⟩⟩;have hf:f∈E.l:=hf;rw[HEL.o]at hf;cases hf
theorem Qx(Z:StH base s sA sn sk x tau M K E w)(T1 k1 i1:Int)(l0:List En)(hel:E.l=⟨T1,k1,i1⟩::l0)(hM:M<=T1):
  Calls prog 140 #[.pointer (some ⟨x,0,none⟩),O J M] w (StpQ base s sA sn sk x tau M K E w):=by
 have HPK:=ze (Z.pk hel);have HEL:=ze hel;have hK:=Z.K9;clear hel;go_enter func140,ntmps140;have hg:decide (T1≥M)=true:=by simpa using hM
 have HM:=ze hM;clear hM;go_wp2_with(go_at_call 180;(with_reducible refine HPK.o.mono ?_);rintro r w1 hPP;obtain⟨rfl,L1,hC,hL1,hb⟩:=CPeek.cons hPP;have HC:=ze hC;have HBB:=ze hb;have HL1:=ze hL1;clear hC hL1 hb hPP);go_ret;rw[<-HEL.o]at HC;have hE:=Z.H.cal HC.o HBB.o (fun k _ h=>h);have hb:=(Below.refl w1.heap.size w1).alloc fi (.cells #[O J T1,O J k1,O J i1] 312);refine⟨hE.2.trans (hb.mono hE.1.bs),.inl ⟨rfl,_,hE.1.below hb,⟨Z.I.inv,Z.I.tk,Z.I.yl,Z.I.mx,Z.I.n,Z.I.m⟩,fun f hf=>?_,rfl,rfl⟩⟩;have hf:f∈E.l:=hf;have hs:=Z.H.cs.ch.srt;rw[HEL.o]at hf hs;rcases List.mem_cons.1 hf with rfl|hf
 ·exact HM.o
 ·have:=(GA ((List.pairwise_cons.1 hs).1 f hf)).1;have:=HM.o;have h9:(⟨T1,k1,i1⟩:En).t=T1:=rfl;omega
theorem Qy(Z:StH base s sA sn sk x tau M K E w)(T1:Int)(l0:List En)(p0:Pa)(P0:List Pa)(hel:E.l=⟨T1,0,0⟩::l0)(hP:E.P=p0::P0)(hpt:T1=p0.tick)(hM:T1<M):
  Calls prog 140 #[.pointer (some ⟨x,0,none⟩),O J M] w (StpQ base s sA sn sk x tau M K E w):=by
 have HP:=ze hP;have HPT:=ze hpt;clear hP hpt;have HPK:=ze (Z.pk hel);have HEL:=ze hel;have hK:=Z.K9;clear hel;go_enter func140,ntmps140;have hg:decide (T1≥M)=false:=by simp;omega
 have HM:=ze hM;clear hM;go_upto_region 4 with(go_at_call 180;(with_reducible refine HPK.o.mono ?_);rintro r w1 hPP;obtain⟨rfl,L1,hC,hL1,hb⟩:=CPeek.cons hPP;have HC:=ze hC;have HBB:=ze hb;have HL1:=ze hL1;clear hC hL1 hb hPP);refine kx (W:=w1.alloc (.cells #[O J T1,O J 0,O J 0] 312)) (fun V=>Bx V w1.heap.size [O J T1,O J 0,O J 0]/\w1.heap.size<V.heap.size/\Below w1.heap.size w1 V) ⟨Bx.new w1 [O J T1,O J 0,O J 0] 312,by simp,fh.alloc fi _⟩ ?_;rintro V ⟨hq,hzV,hbV⟩;rw[<-HEL.o]at HC;have hE:=Z.H.cal HC.o HBB.o (fun k _ h=>h);have hEV:=hE.1.below hbV;have HEV:=ze hEV;have HBV:=ze (hE.2.trans (hbV.mono hE.1.bs));have HQ:=ze hq;have HPP:=ze (show Calls prog 181 #[.pointer (some ⟨x,2,none⟩)] V (CPop x E.F E.g E.nm E.m L1 E.l V)from Yu (F:=E.F) x E.g E.nm L1.length E.m L1 E.l V hEV.cs rfl (by have:=HL1.o;have:=Z.B.hl;omega));clear hq hbV hE hEV;go_upto_region 5 with(go_at_call 181;(with_reducible refine HPP.o.mono ?_);rintro r w2 ⟨rfl,L2,hC,hL2,hb⟩;have HC2:=ze hC;have HB2:=ze hb;have HL2:=ze hL2;clear hC hL2 hb);have hc2:=HC2.o;rw[HEL.o]at hc2;have hE2:=HEV.o.cal hc2 HB2.o (fun k _ h=>h);have HE2:=ze hE2.1;have HBW:=ze (HBV.o.trans hE2.2);have HQ2:=ze (HQ.o.but HB2.o hzV (fun hx=>by
  have h1:=HC.o.xlt hx;omega))
 have hz2:=HB2.o.size;obtain⟨⟨-,-,-,-,x6⟩,-,fx6⟩:=hE2.1.cells;obtain⟨⟨c0,c1,c2⟩,-⟩:=HQ2.o.o3;dsimp only at x6;clear hc2 hE2 HC2 HPP;have hcn:=HE2.o.count (wrap64 (E.evn+1));have hbd:=Z.B;have h21:=HL2.o;have h11:=HL1.o;have hinv:=Z.I.inv;have hsrt:=Z.H.cs.ch.srt;have huq:=Z.H.cs.ch.uq;rw[HEL.o]at hinv hsrt huq;have hpop:=hinv.pop hsrt;have hT0:0<=T1:=by have h1:=hinv.T0;have h2:=hinv.tT;have h3:=hinv.low _ (List.mem_cons_self ..);dsimp only at h3;omega
 have hBW3:=HBW.o.trans hcn.2;have HBW3:=ze hBW3;have HARR:=ze (Xz base s Z.ok sA sn sk x T1 M K _ _ hcn.1 ⟨hpop.ex_mono (fun k _ h=>by rcases h with h|h;exact h;exact absurd h.1 (show¬(0:Int)=1 by decide)),Z.I.tk,Z.I.yl,Z.I.mx,Z.I.n,Z.I.m⟩ (fun f hf hk=>by
  have h1:=(List.pairwise_cons.1 huq).1 f hf;rcases hinv.ev f (List.mem_cons_of_mem _ hf)with⟨h2,-⟩|⟨h2,h3,-⟩
  ·omega
  ·exact h1 ⟨h2.symm,h3.symm⟩) hT0 (by have:=HM.o;omega) p0 P0 HP.o (by have:=HPT.o;omega) (Z.T.below hBW3 Z.D) Z.D Z.L ⟨by show L2.length+0+18*zM M E.P E.at_<=K;have:=hbd.hl;omega,hbd.nm,hbd.nw,hbd.nc⟩ Z.K9)
 clear hcn hbd h21 h11 hinv hsrt huq hpop hBW3;go_wp2_with(go_at_call 182;refine HARR.o.mono ?_;rintro r w5 hQ;obtain⟨rfl,hQQ⟩:=StpQ.yes (tau:=tau) HBW3.o hQ rfl rfl rfl rfl (by have:=HM.o;omega);have HQQ:=ze hQQ;clear hQ hQQ);go_ret;exact HQQ.o
theorem Qz(Z:StH base s sA sn sk x tau M K E w)(T1:Int)(i:Nat)(l0:List En)(z:Ca)(a:Int)(hel:E.l=⟨T1,1,i⟩::l0)(hz:E.L[i]?=some z)(ha:E.at_[i]?=some a)(hT:CarT s.gap z.c a T1)(hM:T1<M):
  Calls prog 140 #[.pointer (some ⟨x,0,none⟩),O J M] w (StpQ base s sA sn sk x tau M K E w):=by
 have HZ:=ze hz;have HA:=ze ha;have HCT:=ze hT;clear hz ha hT;have HPK:=ze (Z.pk hel);have HEL:=ze hel;have hK:=Z.K9;clear hel;go_enter func140,ntmps140;have hg:decide (T1≥M)=false:=by simp;omega
 have HM:=ze hM;clear hM;go_upto_region 4 with(go_at_call 180;(with_reducible refine HPK.o.mono ?_);rintro r w1 hPP;obtain⟨rfl,L1,hC,hL1,hb⟩:=CPeek.cons hPP;have HC:=ze hC;have HBB:=ze hb;have HL1:=ze hL1;clear hC hL1 hb hPP);refine kx (W:=w1.alloc (.cells #[O J T1,O J 1,O J (i:Int)] 312)) (fun V=>Bx V w1.heap.size [O J T1,O J 1,O J (i:Int)]/\w1.heap.size<V.heap.size/\Below w1.heap.size w1 V) ⟨Bx.new w1 [O J T1,O J 1,O J (i:Int)] 312,by simp,fh.alloc fi _⟩ ?_;rintro V ⟨hq,hzV,hbV⟩;rw[<-HEL.o]at HC;have hE:=Z.H.cal HC.o HBB.o (fun k _ h=>h);have hEV:=hE.1.below hbV;have HEV:=ze hEV;have HBV:=ze (hE.2.trans (hbV.mono hE.1.bs));have HQ:=ze hq;have HPP:=ze (show Calls prog 181 #[.pointer (some ⟨x,2,none⟩)] V (CPop x E.F E.g E.nm E.m L1 E.l V)from Yu (F:=E.F) x E.g E.nm L1.length E.m L1 E.l V hEV.cs rfl (by have:=HL1.o;have:=Z.B.hl;omega));clear hq hbV hE hEV;go_upto_region 5 with(go_at_call 181;(with_reducible refine HPP.o.mono ?_);rintro r w2 ⟨rfl,L2,hC,hL2,hb⟩;have HC2:=ze hC;have HB2:=ze hb;have HL2:=ze hL2;clear hC hL2 hb);have hc2:=HC2.o;rw[HEL.o]at hc2;have hE2:=HEV.o.cal hc2 HB2.o (fun k _ h=>h);have HE2:=ze hE2.1;have HBW:=ze (HBV.o.trans hE2.2);have HQ2:=ze (HQ.o.but HB2.o hzV (fun hx=>by
  have h1:=HC.o.xlt hx;omega))
 have hz2:=HB2.o.size;obtain⟨⟨-,-,-,-,x6⟩,-,fx6⟩:=hE2.1.cells;obtain⟨⟨c0,c1,c2⟩,-⟩:=HQ2.o.o3;dsimp only at x6;clear hc2 hE2 HC2 HPP;have hcn:=HE2.o.count (wrap64 (E.evn+1));have hbd:=Z.B;have h21:=HL2.o;have h11:=HL1.o;have hinv:=Z.I.inv;have hsrt:=Z.H.cs.ch.srt;have huq:=Z.H.cs.ch.uq;rw[HEL.o]at hinv hsrt huq;have hpop:=hinv.pop hsrt;have hT0:0<=T1:=by have h1:=hinv.T0;have h2:=hinv.tT;have h3:=hinv.low _ (List.mem_cons_self ..);dsimp only at h3;omega
 have hBW3:=HBW.o.trans hcn.2;have HBW3:=ze hBW3;have HARR:=ze (UC base s Z.ok sA sn sk x T1 M K _ _ i hcn.1 ⟨hpop.ex_mono (fun k _ h=>by rcases h with h|h;exact absurd h id;have h9:((i:Nat):Int)=(k:Int):=h.2;omega),Z.I.tk,Z.I.yl,Z.I.mx,Z.I.n,Z.I.m⟩ (List.getElem?_eq_some_iff.1 HZ.o).1 (fun z' a' h1 h2=>by
  have h1:E.L[i]?=some z':=h1;have h2:E.at_[i]?=some a':=h2;rw[HZ.o]at h1;rw[HA.o]at h2;cases h1;cases h2;exact HCT.o) (fun f hf hk=>by
  rcases cO hinv hsrt huq rfl f hf with⟨-,h2,h3⟩|⟨h2,-⟩
  ·exact⟨h2,h3⟩
  ·omega) hT0 (by have:=HM.o;omega) (by have:=Z.L;show E.trips.length<=_;omega) ⟨by show L2.length+0+18*zM M E.P E.at_<=K;have:=hbd.hl;omega,hbd.nm,hbd.nw,hbd.nc⟩ Z.K9)
 clear hcn hbd h21 h11 hinv hsrt huq hpop hBW3;go_wp2_with(go_at_call 183;refine HARR.o.mono ?_;rintro r w5 hQ;obtain⟨rfl,hQQ⟩:=StpQ.yes (tau:=tau) HBW3.o hQ rfl rfl rfl rfl (by have:=HM.o;omega);have HQQ:=ze hQQ;clear hQ hQQ);go_ret;exact HQQ.o
theorem GN(Z:StH base s sA sn sk x tau M K E w):
  Calls prog 140 #[.pointer (some ⟨x,0,none⟩),O J M] w (StpQ base s sA sn sk x tau M K E w):=by
 rcases hel:E.l with _|⟨⟨T1,k1,i1⟩,l0⟩
 ·exact Qw Z hel
 ·by_cases hM:M<=T1
  ·exact Qx Z T1 k1 i1 l0 hel hM
  ·have hinv:=Z.I.inv.ev ⟨T1,k1,i1⟩ (by rw[hel];exact List.mem_cons_self ..);rcases hinv with⟨h1,j,z,a,h2,h3,h4,h5⟩|⟨h1,h2,p,P',h3,h4⟩
   ·dsimp only at h1 h2 h5;subst h1;subst h2;exact Qz Z T1 j l0 z a hel h3 h4 h5 (by omega)
   ·dsimp only at h1 h2 h4;subst h1;subst h2;exact Qy Z T1 l0 p P' hel h3 h4 (by omega)
end
def dE(M:Int)(x:Nat)(w:World):Nat:=pLen x w+(match w.cell? ⟨x,4,none⟩with
 |some (.slice (some a) n _)=>((List.range n).map fun j=>match w.cell? ⟨a.block,j,none⟩with|some v=>(M-intOf v).toNat|none=>0).sum
 |_=>0)
theorem Eg.tdW_eq{base:Nat}{s:Sc}{sA:Option Addr}{sn sk x:Nat}{E:Egs}{w:World}(H:Eg base s sA sn sk x E w)(M:Int):dE M x w=zM M E.P E.at_:=by
 unfold dE zM;rw[H.pLen,H.cells.1.2.2.1];dsimp only
 congr 2
 apply List.ext_getElem?;intro j;rw[List.getElem?_map,List.getElem?_map];rcases Nat.lt_or_ge j E.at_.length with h|h
 ·obtain⟨a,ha,hc,-⟩:=H.ao.int_at rfl h;rw[List.getElem?_range h,ha];simp only[Option.map_some,hc]
  rfl
 ·rw[List.getElem?_eq_none (by simpa using h),List.getElem?_eq_none h];rfl
def et(base:Nat)(s:Sc)(sA:Option Addr)(sn sk x:Nat)(M:Int)(E:Egs)(w:World)(e:Ending)(w':World):Prop:=
 e=.returned (.tuple #[])/\Below base w w'/\∃ E',Eg base s sA sn sk x E' w'/\EI s M M E' (fun _=>False)/\E'.T=M/\E'.L.length=E.L.length/\E'.trips.length+E'.P.length=E.trips.length+E.P.length
theorem UD(base:Nat)(s:Sc)(hs:s.ok)(sA:Option Addr)(sn sk x:Nat)(tau M:Int)(K:Nat)(E:Egs)(w:World)(H:Eg base s sA sn sk x E w)(hI:EI s tau M E (fun _=>False))(htM:tau<=M)(hl:E.trips.length+E.P.length<=1000000)(hB:Bd M E 0 K)(hK:K<=99000)(ht:Tab w)(hD:5<base):
  Calls prog 107 #[.pointer (some ⟨x,0,none⟩),O J M] w (et base s sA sn sk x M E w):=by
 have HH:=ze H;have HI:=ze hI;have HB:=ze hB;have HL:=ze hl;have HT:=ze ht;have hn:=hI.n;generalize hnn:E.L.length=n at*;have HNN:=ze hnn;have M0:0<=M:=by have h1:=hI.inv.T0;have h2:=hI.inv.tT;omega
 have MM:=hI.m;clear H hI hB hl ht hnn;go_enter func107,ntmps107;go_wp2_with fail
 go_loopw [] (fun wr=>∃ t1 E1,t1<=M/\Eg base s sA sn sk x E1 wr/\EI s t1 M E1 (fun _=>False)/\Bd M E1 0 K/\E1.L.length=n/\E1.trips.length+E1.P.length=E.trips.length+E.P.length/\Below base w wr) (fun wr=>dE M x wr)
 case atStart=>exact⟨tau,E,htM,HH.o,HI.o,HB.o,HNN.o,rfl,fh⟩
 case round=>
  obtain⟨t1,E1,ht1,hE,hI,hB,hn1,htr,hb⟩:=hrel;have HE1:=ze hE;have HI1:=ze hI;have HB1:=ze hB;have HN1:=ze hn1;have HTR:=ze htr;have HBW:=ze hb;have HSTP:=ze (GN (s:=s) (sA:=sA) (sn:=sn) (sk:=sk) ⟨hs,hE,hI,by rw[htr];exact HL.o,hB,hK,HT.o.below hb hD,hD⟩);clear hE hI hB hn1 htr hb;go_wp2_with fail;refine HSTP.o.mono ?_;rintro r w1 ⟨hb1,hQ⟩;rcases hQ with⟨rfl,E2,h1,h2,h3,h4,h5⟩|⟨rfl,t2,E2,h0,h1,h2,h3,h4,h5,h6⟩
  ·have HE2:=ze h1;have HI2:=ze h2;have HF2:=ze h3;have HB2:=ze (HBW.o.trans hb1);have hn2:E2.L.length=n:=by rw[h4];exact HN1.o
   have HN2:=ze hn2;have HTR2:=ze (h5.trans HTR.o);clear h1 h2 h3 h4 h5 hb1 hn2 HSTP;have HI3:=ze (show EI s M M E2 (fun _=>False)from⟨HI2.o.inv.tau_ ht1 HF2.o,HI2.o.tk,HI2.o.yl,HI2.o.mx,HI2.o.n,HI2.o.m⟩);obtain⟨A2,c2,hcv⟩:=HE2.o.cvs;obtain⟨⟨x0,-,-,-,-⟩,-,-⟩:=HE2.o.cells;obtain⟨⟨-,-,-,-,-,-,-,-,-,-,-,-,-,-,w14,-,-⟩,-⟩:=HE2.o.wd.bx.o17;rw[hcv,HN2.o]at w14;clear hcv HE1 HI1 HB1 HN1 HTR HI2 HF2 HBW;go_wp2_with fail
   go_loopw [16] (fun k wr=>∃ j:Nat,k=O J j/\j<=n/\ArrI base s sA sn sk x M M E2 w j wr) (fun k _=>n-(intOf k).toNat)
   case atStart=>exact⟨0,rfl,Nat.zero_le _,E2,HE2.o,HI3.o,SameC.refl E2,fun i hi=>absurd hi (by omega),fi,HB2.o⟩
   case round=>
    obtain⟨j,rfl,hj,E3,hE,hI,hS,hA,htd,hb⟩:=hrel;have HE4:=ze hE;have HI4:=ze hI;have HS:=ze hS;have HA:=ze hA;have HTD:=ze htd;have HB4:=ze hb;have hlen:E3.L.length=n:=by rw[hS.len];exact HN2.o
    have HLEN:=ze hlen;have j0:(0:Int)<=(j:Int):=by omega
    clear hE hI hS hA htd hb hlen x0 w14;by_cases hlt:j<n
    ·have j1:(j:Int)<(n:Int):=by omega
     have HADV:=ze (xj base s hs sA sn sk x M M (fun _=>False) E3 wr HE4.o HI4.o j (by have:=HLEN.o;omega) M M0 (Int.le_refl _) (fun z a h1 h2=>HI4.o.can h1 h2 (fun h=>h) (fun e he _ _=>HI4.o.inv.low e he)) (fun e he _ _=>HI4.o.inv.low e he));go_wp2_with(go_at_call 141;refine HADV.o.mono ?_;rintro r w3 ⟨rfl,hb1,E5,hE2,hI2,hR⟩;have HX:=ze (ArrI.next HS.o HA.o HTD.o HB4.o HI4.o hE2 hI2 hR hb1);clear hb1 hE2 hI2 hR);go_roundw
     case rel=>exact⟨j+1,by go_num,by omega,HX.o⟩
     case measure=>simp[intOf];omega
    ·have j1:¬ ((j:Int)<(n:Int)):=by omega
     obtain⟨W3,hW3⟩:∃ W3,W3=wr:=⟨_,rfl⟩;subst hW3;obtain⟨⟨x0,-,-,-,-⟩,-,-⟩:=HE4.o.cells;obtain⟨⟨-,-,-,-,-,-,-,-,-,-,-,-,-,-,-,-,w16⟩,-,-,-,-,-,-,-,-,-,-,-,-,-,-,-,-,f16⟩:=HE4.o.wd.bx.o17;have hTM:max E3.T M=M:=by have:=HI4.o.inv.tT;omega
     have HTM:=ze hTM;clear hTM;go_upto_region 6 with(fail);go_region
     all_goals(
      go_wp2_with fail;go_end0;obtain⟨t9,hE9,hb9⟩:=HE4.o.tick (max E3.T M);have hd:=(Below.refl (W3.setCell ⟨E3.wb,16,none⟩ (O J (max E3.T M))).heap.size (W3.setCell ⟨E3.wb,16,none⟩ (O J (max E3.T M)))).drew;refine⟨rfl,(HB4.o.trans hb9).trans (hd.mono hE9.bs),_,hE9.below hd,⟨?_,HI4.o.tk,HI4.o.yl,HI4.o.mx,HI4.o.n,HI4.o.m⟩,HTM.o,?_,?_⟩
      ·exact HI4.o.inv.time (show E3.T<=max E3.T M by omega) (show max E3.T M<=M by have:=HTM.o;omega)
      ·show E3.L.length=_
       rw[HLEN.o,HNN.o]
      ·show E3.trips.length+E3.P.length=_
       rw[HS.o.trips,HS.o.P];exact HTR2.o)
  ·have HX:=ze (show∃t1 E1,t1<=M/\Eg base s sA sn sk x E1 w1/\EI s t1 M E1 (fun _=>False)/\Bd M E1 0 K/\E1.L.length=n/\E1.trips.length+E1.P.length=E.trips.length+E.P.length/\Below base w w1 from⟨t2,E2,h0,h1,h2,h3,h6.trans HN1.o,h5.trans HTR.o,HBW.o.trans hb1⟩);have HMS:=ze (show dE M x w1<dE M x wr from by rw[h1.tdW_eq,HE1.o.tdW_eq];omega);clear h0 h1 h2 h3 h4 h5 h6 hb1 HSTP;go_wp2_with fail;go_roundw
   case rel=>exact HX.o
   case measure=>exact HMS.o
abbrev Yx:Bu:=⟨.slice none 0 0,0,0⟩
theorem Own.madeBu{base:Nat}(w:World)(n:Nat)(hb:base<=w.heap.size)(hn:n<=1000000):HB.Own (w.alloc (.cells (madeCells #[.slice none 0 0,O J 0,O J 0] (n*3)) 268)) base 268 3 aD (.slice (some ⟨w.heap.size,0,none⟩) n n) (List.replicate n Yx):=by
 have h:=Own.block (base:=base) (f:=aD) (sz:=3) w 268 (madeCells #[.slice none 0 0,O J 0,O J 0] (n*3)) (List.replicate n Yx) hb (by
  apply List.ext_getElem?;intro i;by_cases hi:i<n*3
  ·have hm:i=i/3*3+i%3:=by omega
   have hd:i/3<n:=by omega
   have h3:i%3<3:=Nat.mod_lt _ (by omega);have hg:(List.replicate n Yx)[i/3]?=some Yx:=by rw[List.getElem?_replicate,if_pos hd]
   have:=flat_get (f:=aD) (m:=3) (fun _=>rfl) (List.replicate n Yx) (i/3) (i%3) Yx hg h3;rw[hm,this];have hz:(madeCells #[.slice none 0 0,O J 0,O J 0] (n*3)).toList[i/3*3+i%3]?=some (#[Value.slice none 0 0,O J 0,O J 0][i%3]!):=by
    rw[<-hm];simp[madeCells,hi]
   rw[hz];rcases(show i%3=0\/i%3=1\/i%3=2 by omega)with e|e|e<;>rw[e]<;>rfl
  ·rw[List.getElem?_eq_none (by simp[madeCells];omega),List.getElem?_eq_none (by rw[flat_length (f:=aD) (m:=3) (fun _=>rfl)];simp;omega)]) (fun _=>rfl) (by simp;omega)
 simpa using h
theorem Wd.small{base B:Nat}{s:Sc}{sA:Option Addr}{sn sk wb h:Nat}{w:World}{S:HS}{cv tv:Value}{L:List Ca}{trips:List Tr}{T:Int}(H:Wd base s sA sn sk wb h w S cv tv L trips T)(hB:B<=base):Wd B s sA sn sk wb h w S cv tv L trips T:=
 ⟨H.bx,Nat.le_trans hB H.wl,H.hl,fun k hk=>Nat.le_trans hB (H.hb k hk),H.cr.small hB,H.ri,H.tr.small hB,H.s1,H.s2,H.s3,fun k hk=>⟨Nat.le_trans hB (H.s4 k hk).1,(H.s4 k hk).2⟩⟩
abbrev eu(wb:Nat)(pA:Option Addr)(pn pc ab n yb:Nat):List Value:=[.pointer (some ⟨wb,0,none⟩),.slice pA pn pc,.slice none 0 0,.map none,.slice (some ⟨ab,0,none⟩) n n,.slice (some ⟨yb,0,none⟩) n n,O J 0]
def eM(s:Sc)(sA:Option Addr)(sn sk:Nat)(B:Nat)(P:List Pa)(M:Int)(x:Nat)(w':World):Prop:=
 ∃E,Eg B s sA sn sk x E w'/\EI s 0 M E (fun _=>False)/\E.P=P/\E.trips=[]/\E.HL=[]/\E.l=[]/\E.nm=0/\E.S.nw=0/\E.S.nc=0/\(E.L.length:Int)=s.cars/\(∀a∈E.at_,a=0)
theorem yf{w V V':World}{s:Sc}{sA:Option Addr}{sn sk wb h:Nat}{cv:Value}{L:List Ca}{M:Int}(hs:s.ok)(hb:Below w.heap.size w V)(HW:Wd w.heap.size s sA sn sk wb h V HS0 cv (.slice none 0 0) L [] 0)(HL:∀ x∈L,Yw s x)(hL:(L.length:Int)=s.cars)(n ab yb x:Nat)(hn:(n:Int)=s.cars)
  (HA:HB.Own V w.heap.size 3 1 (fa .i64) (.slice (some ⟨ab,0,none⟩) n n) (List.replicate n 0))(HY:HB.Own V w.heap.size 268 3 aD (.slice (some ⟨yb,0,none⟩) n n) (List.replicate n Yx))(hay:ab≠yb)(hsep:∀ k,(Wx wb h HS0 cv (.slice none 0 0) k\/RBk L k)->k≠ab/\k≠yb)
  (pA:Option Addr)(pn pc:Nat)(P:List Pa)(hp:Rd w w.heap.size 4 pA pn (P.flatMap Wl))(hpl:P.length=pn/\pn<=pc)(hP:Pas 0 P)(M0:0<=M)(M1:M<=1000000)
  (l:List Value)(hbx:Bx V' x l)(hl:l=eu wb pA pn pc ab n yb)(hbV:Below V.heap.size V V')(hx0:x=V.heap.size)(hx1:x<V'.heap.size):eM s sA sn sk w.heap.size P M x V':=by
 subst hl;have hz:=hb.size;have hzV:=hbV.size;have hnL:L.length=n:=by omega
 have hc:=hs.cars;have hab:=HA.row.lt ab rfl;have hyb:=HY.row.lt yb rfl;obtain⟨⟨x0,x1,x2,x3,x4,x5,x6⟩,y0,y1,y2,y3,y4,y5,y6⟩:=hbx.o7
 let F:Fr:=fun o=>(V'.cell? ⟨x,o,none⟩,V'.frozen? ⟨x,o,none⟩)
 open Classical in
 let tg:Nat->Nat:=fun k=>if k=ab then 3 else if k=yb then 4 else if k=x then 2 else if(Wx wb h HS0 cv (.slice none 0 0) k\/RBk L k)then 1 else 0
 have hxW:∀ k,(Wx wb h HS0 cv (.slice none 0 0) k\/RBk L k)->w.heap.size<=k/\k<V.heap.size:=fun k hk=>by
  rcases hk with hk|hk
  ·exact HW.xlt hk
  ·exact⟨(HW.s4 k hk).1,(HW.s4 k hk).2.1⟩
 refine⟨⟨wb,h,HS0,cv,.slice none 0 0,L,[],0,F,x,none,0,[],[],pA,pn,pc,P,ab,List.replicate n 0,yb,n,n,List.replicate n Yx,List.replicate n [],0,tg⟩,⟨HW.below hbV,⟨?_,x3,y3,⟨?_,List.Pairwise.nil,List.Pairwise.nil,fun e he=>(by cases he),fun e he=>(by cases he)⟩,.inl ⟨rfl,rfl⟩,fun b hb=>(by cases hb),fun o _ _=>⟨rfl,rfl⟩⟩,?_,?_,?_,?_,?_,?_,?_,?_,?_,?_,hpl,by omega,?_⟩,⟨?_,?_,?_,?_,?_,M1⟩,rfl,rfl,rfl,rfl,rfl,rfl,rfl,hL,fun a ha=>List.eq_of_mem_replicate ha⟩
 ·exact⟨.slice none 0 0,x2,y2,hx1,Own.nil _ _ _ _ _,.inl ⟨rfl,rfl,rfl⟩⟩
 ·intro j hj hs';intro a b ha;simp at ha
 ·show(V'.cell? ⟨x,0,none⟩,V'.frozen? ⟨x,0,none⟩)=_;rw[x0,y0]
 ·show(V'.cell? ⟨x,1,none⟩,V'.frozen? ⟨x,1,none⟩)=_;rw[x1,y1]
 ·show(V'.cell? ⟨x,4,none⟩,V'.frozen? ⟨x,4,none⟩)=_;rw[x4,y4,List.length_replicate]
 ·show(V'.cell? ⟨x,5,none⟩,V'.frozen? ⟨x,5,none⟩)=_;rw[x5,y5]
 ·show(V'.cell? ⟨x,6,none⟩,V'.frozen? ⟨x,6,none⟩)=_;rw[x6,y6]
 ·show HB.Own V' _ _ 1 (fa .i64) (.slice _ (List.replicate n (0:Int)).length (List.replicate n (0:Int)).length) _
  rw[List.length_replicate];exact HA.below hbV
 ·intro i b hi;have hil:i<n:=by have:=(List.getElem?_eq_some_iff.1 hi).1;simpa using this
  have hb0:b=Yx:=by rw[List.getElem?_replicate,if_pos hil]at hi;exact(Option.some.inj hi).symm
  subst hb0;refine⟨[],by show(List.replicate n _)[i]?=_;rw[List.getElem?_replicate,if_pos hil],⟨HY.below hbV,List.length_replicate ..,hi,Own.nil _ _ _ _ _,fun k hk=>(by cases hk),fun g hg=>(by cases hg),by decide,by decide,by decide,by decide,by decide⟩⟩
 ·exact⟨List.length_replicate ..,fi⟩
 ·exact List.length_replicate ..
 ·exact hp.below (hb.trans (hbV.mono hz))
 ·refine⟨fun k hk=>?_,fun k hk=>?_,fun k hk=>?_,?_,?_,fun i b hi k hk=>?_⟩
  ·dsimp only[tg]at hk;split at hk
   ·rename_i e;subst e;omega
   ·split at hk
    ·rename_i e;subst e;omega
    ·split at hk
     ·rename_i e;subst e;omega
     ·split at hk
      ·rename_i e;have:=hxW k e;omega
      ·exact absurd rfl hk
  ·have h1:=hsep k hk;have h2:=hxW k hk;dsimp only[tg];rw[if_neg h1.1,if_neg h1.2,if_neg (by omega),if_pos hk]
  ·have hk2:k=x:=by
    rcases hk with e|e|e
    ·exact e
    ·exact e
    ·cases e
   subst hk2;dsimp only[tg];rw[if_neg (by omega),if_neg (by omega),if_pos rfl]
  ·dsimp only[tg];rw[if_pos rfl]
  ·dsimp only[tg];rw[if_neg (Ne.symm hay),if_pos rfl]
  ·have hil:i<n:=by have:=(List.getElem?_eq_some_iff.1 hi).1;simpa using this
   have hb0:b=Yx:=by
    have hi:(List.replicate n Yx)[i]?=some b:=hi;rw[List.getElem?_replicate,if_pos hil]at hi;exact(Option.some.inj hi).symm
   subst hb0;cases hk
 ·exact EInv.fresh (fun z hz=>⟨(HL z hz).1,(HL z hz).2.1,(HL z hz).2.2.1⟩) (fun a ha=>List.eq_of_mem_replicate ha) (by rw[List.length_replicate];exact hnL.symm) hP
 ·intro i b a hi hai;have hi:(List.replicate n Yx)[i]?=some b:=hi;have hai:(List.replicate n (0:Int))[i]?=some a:=hai;have h1:=List.eq_of_mem_replicate (List.mem_of_getElem? hi);have h2:=List.eq_of_mem_replicate (List.mem_of_getElem? hai);rw[h1,h2]
 ·show(List.replicate n Yx).length=L.length
  rw[List.length_replicate,hnL]
 ·intro a ha;rw[List.eq_of_mem_replicate ha];exact M0
 ·show L.length<=16
  omega
end
section
open List renaming setIfInBounds_toArray->s0q,set_cons_zero->s1q,set_cons_succ->s2q
open Go.RowKit HB Go.Maps CalP HeapP
def dG(s:Sc)(sA:Option Addr)(sn sk:Nat)(P:List Pa)(M:Int)(K:Nat)(w:World)(e:Ending)(w':World):Prop:=
 ∃x E,e=.returned (.pointer (some ⟨x,0,none⟩))/\Eg w.heap.size s sA sn sk x E w'/\EI s 0 M E (fun _=>False)/\Bd M E 0 K/\E.trips.length+E.P.length=P.length/\(E.L.length:Int)=s.cars/\Below w.heap.size w w'
theorem Jv(M:Int):∀ l:List Int,(∀a∈l,a=0)->(l.map fun a=>(M-a).toNat).sum=l.length*M.toNat
 |[],_=>by simp
 |a::l,h=>by
  have h1:=h a (List.mem_cons_self ..);subst h1;simp[Jv M l (fun b hb=>h b (List.mem_cons_of_mem _ hb)),Nat.add_mul];omega
theorem Bu.info:(prog.info? 268).map (fun i=>(i.zero,i.size,i.bytes))=some (some (.agg #[.slice none 0 0,O J 0,O J 0]),3,40):=by kernel_rfl
theorem UE(n:Nat)(hn:n<=1000)(W:World):(Instr.makeSlice 51 (O J n) (O J n)).run prog W=.ok (.slice (some ⟨W.heap.size,0,none⟩) n n) (W.alloc (.cells (madeCells #[O J 0] n) 3)):=by
 obtain⟨i,hi,hz,hs,hb⟩:=info_parts Ints.info;have h:=run_make (P:=prog) W 51 3 i (O J 0) underlying51 hi hz .i64 .i64 n n (by omega) (by omega) (by rw[hb];omega) (by omega);rw[hs]at h;simp only[Int.toNat_natCast,Nat.mul_one]at h;exact h
theorem GO(n:Nat)(hn:n<=1000)(W:World):(Instr.makeSlice 215 (O J n) (O J n)).run prog W=.ok (.slice (some ⟨W.heap.size,0,none⟩) n n) (W.alloc (.cells (madeCells #[.slice none 0 0,O J 0,O J 0] (n*3)) 268)):=by
 obtain⟨i,hi,hz,hs,hb⟩:=info_parts Bu.info;have h:=run_make (P:=prog) W 215 268 i (.agg #[.slice none 0 0,O J 0,O J 0]) underlying215 hi hz .i64 .i64 n n (by omega) (by omega) (by rw[hb];omega) (by omega);rw[hs]at h;simp only[Int.toNat_natCast]at h;exact h
def dH(wb h:Nat)(cv:Value)(L:List Ca)(v:Value):Prop:=∀ k,(Wx wb h HS0 cv (.slice none 0 0) k\/RBk L k)->∀ q,v.ownBlock=some q->k≠q
def eX(v v':Value):Prop:=∀ q q',v.ownBlock=some q->v'.ownBlock=some q'->q≠q'
theorem jQ{s:Sc}{sA:Option Addr}{sn sk wb h:Nat}{cv:Value}{L:List Ca}{W wX:World}{α:Type}{base sz:Nat}{ty:TypeId}{f:α->List Value}{v:Value}{l:List α}(hW:Wd W.heap.size s sA sn sk wb h wX HS0 cv (.slice none 0 0) L [] 0)(hv:HB.Own W base ty sz f v l):dH wb h cv L v:=fun k hk q hq=>by
 have h1:=(hv.row.lt q hq).2;rcases hk with hk|hk
 ·have:=(hW.xlt hk).1;omega
 ·have:=(hW.s4 k hk).1;omega
theorem ji{base:Nat}{s:Sc}{sA:Option Addr}{sn sk wb h:Nat}{cv:Value}{L:List Ca}{W:World}(hW:Wd base s sA sn sk wb h W HS0 cv (.slice none 0 0) L [] 0)(n:Nat):dH wb h cv L (.slice (some ⟨W.heap.size,0,none⟩) n n):=fun k hk q hq=>by
 have hq:some W.heap.size=some q:=hq;obtain rfl:=Option.some.inj hq;rcases hk with hk|hk
 ·have:=(hW.xlt hk).2;omega
 ·have:=(hW.s4 k hk).2.1;omega
theorem jv{α:Type}{W:World}{base sz:Nat}{ty:TypeId}{f:α->List Value}{v:Value}{l:List α}(hv:HB.Own W base ty sz f v l)(n:Nat):eX v (.slice (some ⟨W.heap.size,0,none⟩) n n):=fun q q' hq hq'=>by
 have hq':some W.heap.size=some q':=hq';obtain rfl:=Option.some.inj hq';have:=(hv.row.lt q hq).2;omega
theorem jw{k:Nat}{w:World}(h:k<w.heap.size)(o:Obj):k<(w.alloc o).heap.size:=by simp;omega
theorem bB(s:Sc)(hs:s.ok)(sA:Option Addr)(sn sk:Nat)(pA:Option Addr)(pn pc:Nat)(P:List Pa)(M:Int)(K:Nat)(w:World)(hp:Rd w w.heap.size 4 pA pn (P.flatMap Wl))(hpl:P.length=pn/\pn<=pc)(hP:Pas 0 P)(M0:0<=M)(M1:M<=1000000)(hK:1+18*(P.length+16*M.toNat)<=K)(hK2:K<=99000):
  Calls prog 106 #[s.v sA sn sk,.slice pA pn pc] w (dG s sA sn sk P M K w):=by
 obtain⟨c0,c1⟩:=hs.cars;obtain⟨n,hn⟩:∃ n:Nat,(n:Int)=s.cars:=⟨s.cars.toNat,by omega⟩;have HS:=ze hs;have HP:=ze hp;have HPL:=ze hpl;have HPP:=ze hP;have hn0:n<=16:=by omega
 have hn1:(n:Int)<=16:=by omega
 have HNW:=ze (fun W=>(show Calls prog 138 #[.agg #[O J s.fl,O J s.gap,O J (n:Int),O J s.cap,O J s.opn,O J s.dw,O J s.cl,O J s.tr,.slice sA sn sk,O J s.disp,O J s.hor,O J s.bins,O J s.width]] W (dF s sA sn sk W)from by rw[hn];exact bz s hs sA sn sk W));have hmk1:=UE n (by omega);have hmk2:=GO n (by omega);clear hs hp hpl hP;go_enter func106,ntmps106;go_upto_region 1 with(fail);refine zq (w:=w) (fun V=>Bx V w.heap.size (s.ls sA sn sk)/\w.heap.size<V.heap.size) ⟨Bx.new w (s.ls sA sn sk) 25,by simp⟩ ((Below.refl w.heap.size w).alloc fi _) ?_;rintro V ⟨hq,h0⟩ hbV;have hq2:Bx V w.heap.size [O J s.fl,O J s.gap,O J (n:Int),O J s.cap,O J s.opn,O J s.dw,O J s.cl,O J s.tr,.slice sA sn sk,O J s.disp,O J s.hor,O J s.bins,O J s.width]:=by rw[hn];exact hq
 have HS0:=ze hq;have HBV:=ze hbV;have HN:=ze hn;clear hq hbV hn
 go_cut [5] (fun v wx=>∃ x,v=.pointer (some ⟨x,0,none⟩)/\eM s sA sn sk w.heap.size P M x wx/\Below w.heap.size w wx)
 case first=>
  have MK:=ze (fun W(h:Bx W w.heap.size [O J s.fl,O J s.gap,O J (n:Int),O J s.cap,O J s.opn,O J s.dw,O J s.cl,O J s.tr,.slice sA sn sk,O J s.disp,O J s.hor,O J s.bins,O J s.width])=>(show W.cell? ⟨w.heap.size,0,none⟩=some (O J s.fl)/\W.cell? ⟨w.heap.size,1,none⟩=some (O J s.gap)/\W.cell? ⟨w.heap.size,2,none⟩=some (O J (n:Int))/\W.cell? ⟨w.heap.size,3,none⟩=some (O J s.cap)/\W.cell? ⟨w.heap.size,4,none⟩=some (O J s.opn)/\W.cell? ⟨w.heap.size,5,none⟩=some (O J s.dw)/\W.cell? ⟨w.heap.size,6,none⟩=some (O J s.cl)/\W.cell? ⟨w.heap.size,7,none⟩=some (O J s.tr)/\W.cell? ⟨w.heap.size,8,none⟩=some (.slice sA sn sk)/\W.cell? ⟨w.heap.size,9,none⟩=some (O J s.disp)/\W.cell? ⟨w.heap.size,10,none⟩=some (O J s.hor)/\W.cell? ⟨w.heap.size,11,none⟩=some (O J s.bins)/\W.cell? ⟨w.heap.size,12,none⟩=some (O J s.width)from⟨(h 0 _ rfl).1,(h 1 _ rfl).1,(h 2 _ rfl).1,(h 3 _ rfl).1,(h 4 _ rfl).1,(h 5 _ rfl).1,(h 6 _ rfl).1,(h 7 _ rfl).1,(h 8 _ rfl).1,(h 9 _ rfl).1,(h 10 _ rfl).1,(h 11 _ rfl).1,(h 12 _ rfl).1⟩));have HSX:=ze hq2.drew;have HZX:=ze (show w.heap.size<V.drew.heap.size from h0);have HBX:=ze HBV.o.drew;clear hq2;refine wp_region_held_drew (S:=(fun W=>W.cell? ⟨w.heap.size,0,none⟩=some (O J s.fl)/\W.cell? ⟨w.heap.size,1,none⟩=some (O J s.gap)/\W.cell? ⟨w.heap.size,2,none⟩=some (O J (n:Int))/\W.cell? ⟨w.heap.size,3,none⟩=some (O J s.cap)/\W.cell? ⟨w.heap.size,4,none⟩=some (O J s.opn)/\W.cell? ⟨w.heap.size,5,none⟩=some (O J s.dw)/\W.cell? ⟨w.heap.size,6,none⟩=some (O J s.cl)/\W.cell? ⟨w.heap.size,7,none⟩=some (O J s.tr)/\W.cell? ⟨w.heap.size,8,none⟩=some (.slice sA sn sk)/\W.cell? ⟨w.heap.size,9,none⟩=some (O J s.disp)/\W.cell? ⟨w.heap.size,10,none⟩=some (O J s.hor)/\W.cell? ⟨w.heap.size,11,none⟩=some (O J s.bins)/\W.cell? ⟨w.heap.size,12,none⟩=some (O J s.width))) (by kernel_rfl) ?_ (fun hHeld=>?_)
  ·exact MK.o _ HSX.o
  refine qK [0,2,3,4,6,7] (by simp[zl];rfl) (by kernel_rfl) (by assumption) ?_
  iterate 6 (refine qz (v:=?_) (fun _ _ _ h=>h) (by rfl) ?_ ?_;rotate_left;(next=>((intro w hSw;(try dsimp only at hSw);go_simp);(try with_reducible rfl)));try simp only[Act.put,s0q,s1q,s2q])
  refine qL ?_
  iterate 3
   all_goals first
    |(refine jj [1,5,8] (by decide+kernel) ?_;refine j6 (by simp[zl];rfl) rfl (fun K hK=>?_) (j6 (by simp[zl];rfl) rfl (fun K hK=>?_) (j6 (by simp[zl];rfl) rfl (fun K hK=>?_) AllReadyH.nil)))
    |(refine jj [5,8] (by decide+kernel) ?_;refine j6 (by simp[zl];rfl) rfl (fun K hK=>?_) (j6 (by simp[zl];rfl) rfl (fun K hK=>?_) AllReadyH.nil))
    |(refine jj [1,8] (by decide+kernel) ?_;refine j6 (by simp[zl];rfl) rfl (fun K hK=>?_) (j6 (by simp[zl];rfl) rfl (fun K hK=>?_) AllReadyH.nil))
    |(refine jj [1,5] (by decide+kernel) ?_;refine j6 (by simp[zl];rfl) rfl (fun K hK=>?_) (j6 (by simp[zl];rfl) rfl (fun K hK=>?_) AllReadyH.nil))
    |(refine jj [8] (by decide+kernel) ?_;refine j6 (by simp[zl];rfl) rfl (fun K hK=>?_) AllReadyH.nil)
    |(refine jj [5] (by decide+kernel) ?_;refine j6 (by simp[zl];rfl) rfl (fun K hK=>?_) AllReadyH.nil)
    |(refine jj [1] (by decide+kernel) ?_;refine j6 (by simp[zl];rfl) rfl (fun K hK=>?_) AllReadyH.nil)
   all_goals go_simp
   all_goals first
    |(go_at_call 138;(with_reducible refine(HNW.o _).mono ?_);rintro r wX ⟨wb,h,cv,L,rfl,hW,hLn,hF,hbX⟩;have HW:=ze (hW.small HBX.o.size);have HLN:=ze hLn;have HF:=ze hF;have HSX:=ze (HSX.o.below hbX HZX.o);have HZ2:=ze (Nat.lt_of_lt_of_le HZX.o hbX.size);have HBX:=ze (HBX.o.trans (hbX.mono HBX.o.size));have HZX:=ze HZ2.o;(try have HSA:=ze (jQ hW HAO.o));(try have HSY:=ze (jQ hW HYO.o));(try have HAO:=ze (HAO.o.below hbX));(try have HYO:=ze (HYO.o.below hbX));clear hW hLn hF hbX;refine hK.out _ _ ?_ (fun hHeld=>?_);(next=>exact MK.o _ HSX.o);clear hK K;try simp only[Act.put,s0q,s1q,s2q])
    |((try have HSA:=ze (ji HW.o n));(try have HNE:=ze (jv HYO.o n));have HAO:=ze (Own.made (base:=w.heap.size) (k:=.i64) _ 3 n HBX.o.size (by omega));(try have HYO:=ze (HYO.o.alloc (.cells (madeCells #[O J 0] n) 3)));(try have HW:=ze (HW.o.below (fh.alloc fi (.cells (madeCells #[O J 0] n) 3))));have HSX:=ze (HSX.o.alloc (by simp) (.cells (madeCells #[O J 0] n) 3));have HZX:=ze (jw HZX.o (.cells (madeCells #[O J 0] n) 3));have HBX:=ze (HBX.o.alloc HBX.o.size (.cells (madeCells #[O J 0] n) 3));refine hK.out _ _ ?_ (fun hHeld=>?_);(next=>exact MK.o _ HSX.o);clear hK K;try simp only[Act.put,s0q,s1q,s2q])
    |((try have HSY:=ze (ji HW.o n));(try have HNE:=ze (jv HAO.o n));have HYO:=ze (Own.madeBu (base:=w.heap.size) _ n HBX.o.size (by omega));(try have HAO:=ze (HAO.o.alloc (.cells (madeCells #[.slice none 0 0,O J 0,O J 0] (n*3)) 268)));(try have HW:=ze (HW.o.below (fh.alloc fi (.cells (madeCells #[.slice none 0 0,O J 0,O J 0] (n*3)) 268))));have HSX:=ze (HSX.o.alloc (by simp) (.cells (madeCells #[.slice none 0 0,O J 0,O J 0] (n*3)) 268));have HZX:=ze (jw HZX.o (.cells (madeCells #[.slice none 0 0,O J 0,O J 0] (n*3)) 268));have HBX:=ze (HBX.o.alloc HBX.o.size (.cells (madeCells #[.slice none 0 0,O J 0,O J 0] (n*3)) 268));refine hK.out _ _ ?_ (fun hHeld=>?_);(next=>exact MK.o _ HSX.o);clear hK K;try simp only[Act.put,s0q,s1q,s2q])
  all_goals
   refine qK [9] (by simp[zl];rfl) (by kernel_rfl) (by assumption) ?_
   iterate 1 (refine qz (v:=?_) (fun _ _ _ h=>h) (by rfl) ?_ ?_;rotate_left;(next=>((intro w hSw;(try dsimp only at hSw);go_simp);(try with_reducible rfl)));try simp only[Act.put,s0q,s1q,s2q])
   refine qL ?_;refine jj [10] (by kernel_rfl) ?_;refine j6 (by simp[zl];rfl) rfl (fun K hK=>?_) AllReadyH.nil;go_simp;refine hK.out _ _ ?_ (fun hHeld=>?_)
   ·exact MK.o _ (HSX.o.alloc (by simp) _)
   clear hK K
   try simp only[Act.put,s0q,s1q,s2q]
   refine qK [11] (by simp[zl];rfl) (by kernel_rfl) (by assumption) ?_
   iterate 1 (refine qz (v:=?_) (fun _ _ _ h=>h) (by rfl) ?_ ?_;rotate_left;(next=>((intro w hSw;(try dsimp only at hSw);go_simp);(try with_reducible rfl)));try simp only[Act.put,s0q,s1q,s2q])
   refine qL ?_;refine wpAnyH_done (by kernel_rfl) ?_ _;go_wp2_with fail
   go_meet
   exact⟨_,rfl,yf HS.o HBX.o HW.o HF.o HLN.o n _ _ _ HN.o HAO.o HYO.o (by first|exact HNE.o _ _ rfl rfl|exact(HNE.o _ _ rfl rfl).symm) (fun k hk=>⟨HSA.o k hk _ rfl,HSY.o k hk _ rfl⟩) pA pn pc P HP.o HPL.o HPP.o M0 M1 _ (by refine Bx.at_size ?_;simp) (by simp) (fh.alloc fi _) (by simp) (by simp),HBX.o.alloc HBX.o.size _⟩
 case rest=>
 obtain⟨x,rfl,hMk,hbw⟩:=hcut;obtain⟨W2,hW2⟩:∃ W2,W2=wc:=⟨_,rfl⟩;subst hW2;obtain⟨E,hE,hI,hEP,htr,hHL,hl,hnm,hnw,hnc,hLn,hat⟩:=hMk;have htodo:zM M E.P E.at_<=P.length+16*M.toNat:=by
  unfold zM;rw[Jv M E.at_ hat,hEP];have h1:=hI.inv.len;have h2:=hI.n;have:E.at_.length*M.toNat<=16*M.toNat:=Nat.mul_le_mul_right _ (by omega);omega
 have HE:=ze hE;have HI:=ze hI;have HEP:=ze hEP;have HTR:=ze htr;have HHL:=ze hHL;have HEL:=ze hl;have HNM:=ze hnm;have HNW2:=ze hnw;have HNC:=ze hnc;have HLN:=ze hLn;have HTD:=ze htodo;have HBW:=ze hbw;clear hE hI hEP htr hHL hl hnm hnw hnc hLn hat htodo hmk1 hmk2 hq2;have hpl0:=HPL.o;rcases hPP:P with _|⟨p,P'⟩
 ·have HQ:=ze hPP;rw[hPP]at hpl0;have hp0:pn=0:=by simpa using hpl0.1.symm
  subst hp0;clear hPP hpl0 hbw;go_wp2_with fail;go_ret;refine⟨x,E,rfl,HE.o,HI.o,⟨?_,?_,?_,?_⟩,by rw[HTR.o,HEP.o,HQ.o];rfl,HLN.o,HBW.o⟩
  ·rw[HHL.o];have:=HTD.o;simp;omega
  ·rw[HNM.o];have:=HTD.o;omega
  ·rw[HNW2.o];have:=HTD.o;omega
  ·rw[HNC.o];have:=HTD.o;omega
 ·have HQ:=ze hPP;have hp2:=HP.o.below hbw;rw[hPP]at hpl0 hp2;have hpn:pn=P'.length+1:=by simpa using hpl0.1.symm
  subst hpn;obtain⟨B,off,rfl,hBl,hcell⟩:=hp2.2 (by omega);have q1:W2.cell? ⟨B,off+1,none⟩=some (O J p.tick):=hcell 1 _ rfl;have hpo:=HPP.o.ok p (by rw[hPP];exact List.mem_cons_self ..);have hpc:P'.length+1<=pc:=by simpa using hpl0.2
  have hplen:P.length=P'.length+1:=by rw[hPP];rfl
  have HSET:=ze (show Calls prog 139 #[.pointer (some ⟨x,2,none⟩),O J 0,O J 0,O J p.tick] W2.drew fun r w'=>r=.returned (.tuple #[])/\bj x E.F E.g E.nm E.m E.HL E.l ⟨p.tick,0,0⟩ W2.drew w' from
   Qr (F:=E.F) x E.g E.nm E.HL.length E.m E.HL E.l ⟨p.tick,0,0⟩ W2.drew (HE.o.cs.below fh.drew) rfl (by rw[HHL.o];simp) (by rw[HNM.o];omega) ⟨zQ (by show(-1000000000:Int)<=p.tick;omega) (by show p.tick<=(1000000000:Int);omega),zQ (show(-1000000000:Int)<=0 by decide) (show(0:Int)<=1000000000 by decide),zQ (show(-1000000000:Int)<=0 by decide) (show(0:Int)<=1000000000 by decide)⟩)
  have HPO:=ze hpo;have HPN:=ze hplen;clear hPP hpl0 hp2 hcell hpo hplen hbw;go_upto_region 3 with(fail)
  go_region_with (go_at_call 139;(with_reducible refine HSET.o.mono ?_);rintro r w5 ⟨rfl,hS⟩;have HSS:=ze hS;clear hS q1)
  all_goals(
   go_wp2_with fail;go_ret;obtain⟨g',b',n',L',h3,h4,h5,h6,h7⟩:=HSS.o;obtain⟨l',h8,h9⟩:=un ⟨p.tick,0,0⟩ (wo E.l 0 0) (JK HE.o.cs.ch.srt 0 0);have h10:=(HE.o.below fh.drew).cal (h3 l' h8 h9) h6 h7;have hI:=HI.o.inv;have hEP2:E.P=p::P':=by rw[HEP.o,HQ.o]
   rw[hEP2]at hI;have h11:Below w.heap.size W2 W2.drew:=fh.drew;rw[HHL.o]at h4;rw[HNM.o]at h5;have h12:=HTD.o;refine⟨x,_,rfl,h10.1,⟨?_,HI.o.tk,HI.o.yl,HI.o.mx,HI.o.n,HI.o.m⟩,⟨?_,?_,?_,?_⟩,?_,HLN.o,(HBW.o.trans h11).trans h10.2⟩
   ·show EInv s 0 E.T E.P E.L E.at_ E.trips E.S.L l' _
    rw[hEP2];exact hI.next HPO.o.1 h9
   ·show L'.length+0+18*zM M E.P E.at_<=K
    simp at h4;omega
   ·show n'+0+18*zM M E.P E.at_<=K
    omega
   ·show E.S.nw+0+18*zM M E.P E.at_<=K
    rw[HNW2.o];omega
   ·show E.S.nc+0+18*zM M E.P E.at_<=K
    rw[HNC.o];omega
   ·show E.trips.length+E.P.length=_
    rw[HTR.o,HEP.o];simp)
end
section
open Go.RowKit HB Go.Maps CalP HeapP
def ey(s:Sc)(sA:Option Addr)(sn sk:Nat)(P:List Pa)(w:World)(e:Ending)(w':World):Prop:=
 ∃B x E,e=.returned (.iface 206 (.pointer (some ⟨x,0,none⟩)))/\Eg B s sA sn sk x E w'/\EI s s.hor s.hor E (fun _=>False)/\E.T=s.hor/\(E.L.length:Int)=s.cars/\E.trips.length+E.P.length=P.length/\Below w.heap.size w w'
theorem QA(s:Sc)(hs:s.ok)(sA:Option Addr)(sn sk:Nat)(pA:Option Addr)(pn pc:Nat)(P:List Pa)(w:World)(hp:Rd w w.heap.size 4 pA pn (P.flatMap Wl))(hpl:P.length=pn/\pn<=pc)(hP:Pas 0 P)(hh:s.hor<=300)(hn:P.length<=600)(ht:Tab w)(hD:5<w.heap.size):
  Calls prog 79 #[s.v sA sn sk,.slice pA pn pc,.bool true] w (ey s sA sn sk P w):=by
 have h1:=hs.hor;have HTD:=ze (show 1+18*(P.length+16*s.hor.toNat)<=99000 from by omega);have HNEW:=ze (fun W(hb:Below w.heap.size w W)=>bB s hs sA sn sk pA pn pc P s.hor 99000 W ((hp.below hb).mono hb.size) hpl hP (by omega) (by omega) HTD.o fi);have HT:=ze ht;have HS:=ze hs;clear hp hpl hP ht hs;go_enter func79,ntmps79;go_upto_region 2 with(fail);refine zq (w:=w) (fun V=>Bx V w.heap.size (s.ls sA sn sk)/\w.heap.size<V.heap.size) ⟨Bx.new w (s.ls sA sn sk) 25,by simp⟩ ((Below.refl w.heap.size w).alloc fi _) ?_;rintro V ⟨hq,h0⟩ hbV;have HQ:=ze hq;have HBV:=ze hbV;obtain⟨⟨q0,q1,q2,q3,q4,q5,q6,q7,q8,q9,q10,q11,q12⟩,-⟩:=hq.o13;clear hq hbV;go_upto_region 3 with(go_at_call 106;(with_reducible refine(HNEW.o _ HBV.o).mono ?_);rintro r w1 ⟨x,E,rfl,hE,hI,hB,htr,hL,hb⟩;have HE:=ze hE;have HI:=ze hI;have HB:=ze hB;have HTR:=ze htr;have HL:=ze hL;have HBW:=ze hb;have HQ1:=ze (HQ.o.below hb h0);clear hE hI hB htr hL hb q0 q1 q2 q3 q4 q5 q6 q7 q8 q9 q10 q11 q12);obtain⟨⟨-,-,-,-,-,-,-,-,-,-,q10,-,-⟩,-⟩:=HQ1.o.o13;have HUN:=ze (UD V.heap.size s HS.o sA sn sk x 0 s.hor 99000 E w1 HE.o HI.o (by omega) (by rw[HTR.o];omega) HB.o fi ((HT.o.below HBV.o hD).below HBW.o (by omega)) (by omega));go_upto_region 4 with(go_at_call 107;(with_reducible refine HUN.o.mono ?_);rintro r w2 ⟨rfl,hb2,E2,hE2,hI2,hT2,hL2,htr2⟩;have HE2:=ze hE2;have HI2:=ze hI2;have HT2:=ze hT2;have HL2:=ze hL2;have HTR2:=ze htr2;have HB2:=ze hb2;clear hE2 hI2 hT2 hL2 htr2 hb2 q10);go_wp2_with fail;go_ret;exact⟨V.heap.size,x,E2,rfl,HE2.o,HI2.o,HT2.o,by rw[HL2.o];exact HL.o,by rw[HTR2.o];exact HTR.o,(HBV.o.trans (HBW.o.mono (by omega))).trans (HB2.o.mono (by omega))⟩
end
end Go.Proofs.YtdeogmbfgkepeaaGreatDoor
