/- Contracts that WholeBins needs. Each tells its conditions. -/
import Derived.Test.YtdeogmbfgkepeaaGreatDoorQ41
set_option linter.unusedVariables false
set_option linter.unusedSimpArgs false
set_option maxRecDepth 100000
set_option maxHeartbeats 64000000
namespace Go.Proofs.YtdeogmbfgkepeaaGreatDoor
open Go.Proofs.Tryz
open Go.Value renaming int->O
open Go.IntKind renaming i64->J
section
open Go.RowKit HB Go.Maps CalP HeapP
structure Pa where
 (id tick frm to_:Int)
abbrev Wl(p:Pa):List Value:=[O J p.id,O J p.tick,O J p.frm,O J p.to_]
structure Pas(n:Nat)(P:List Pa):Prop where
 id:∀ j p,P[j]?=some p->p.id=((n+j:Nat):Int)
 ok:∀ p∈P,0<=p.tick/\p.tick<=1000000/\0<=p.frm/\p.frm<128/\0<=p.to_/\p.to_<128
 srt:P.Pairwise fun p q=>p.tick<=q.tick
theorem Pas.tail{n:Nat}{p:Pa}{P:List Pa}(h:Pas n (p::P)):Pas (n+1) P where
 id:=fun j q hq=>by have:=h.id (j+1) q hq;rw[this];congr 1;omega
 ok:=fun q hq=>h.ok q (List.mem_cons_of_mem _ hq)
 srt:=(List.pairwise_cons.1 h.srt).2
structure CarW(s:Sc)(c:Cr)(l:List Rid):Prop where
 p0:0<=c.pos
 p1:c.pos<=127*s.gap
 d0: -1<=c.dir
 d1:c.dir<=1
 m0:0<=c.mode
 m1:c.mode<=4
 lf:c.mode=2\/c.mode=3\/c.mode=4->1<=c.left/\c.left<=64
 l0:0<=c.left/\c.left<=64
 cp:(l.length:Int)<=s.cap
structure CarT(g:Int)(c:Cr)(a t:Int):Prop where
 le:a<=t
 dr:c.mode=2\/c.mode=3\/c.mode=4->t=a+c.left-1
 rd:c.mode=1->0<=c.pos+c.dir*(t-a)/\c.pos+c.dir*(t-a)<=127*g
theorem xg(c:Cr)(k:Int):(aft c k).mode=c.mode/\(aft c k).dir=c.dir:=by
 unfold aft;split
 ·exact⟨rfl,rfl⟩
 ·split<;>exact⟨rfl,rfl⟩
theorem Z8{c:Cr}(h:c.mode=0)(k:Int):aft c k=c:=by
 unfold aft;rw[if_neg (by omega),if_neg (by omega)]
theorem xh{c:Cr}(h:c.mode=1)(k:Int):aft c k={c with pos:=c.pos+c.dir*k}:=by
 unfold aft;rw[if_neg (by omega),if_pos h]
theorem kX{c:Cr}(h:c.mode=2\/c.mode=3\/c.mode=4)(k:Int):aft c k={c with left:=c.left-k}:=by
 unfold aft;rw[if_pos h]
theorem vp{d:Int}(d0: -1<=d)(d1:d<=1):d=-1\/d=0\/d=1:=by omega
section
variable{s:Sc}{c c':Cr}{l l':List Rid}{a b t:Int}
theorem CarT.aft(h:CarT s.gap c a t)(hab:a<=b)(hb:b<=t):CarT s.gap (aft c (b-a)) b t:=by
 refine⟨hb,fun hm=>?_,fun hm=>?_⟩
 ·rw[(xg c _).1]at hm;rw[kX hm];have:=h.dr hm;show t=b+(c.left-(b-a))-1;omega
 ·rw[(xg c _).1]at hm;rw[xh hm];have:=h.rd hm;have e:c.pos+c.dir*(b-a)+c.dir*(t-b)=c.pos+c.dir*(t-a):=by rw[Int.add_assoc,<-Int.mul_add];congr 2;omega
  show 0<=c.pos+c.dir*(b-a)+c.dir*(t-b)/\c.pos+c.dir*(b-a)+c.dir*(t-b)<=127*s.gap
  rw[e];exact this
theorem CarW.aft(h:CarW s c l)(hT:c.mode≠0->∃ t,CarT s.gap c a t/\b<=t)(hab:a<=b):CarW s (aft c (b-a)) l:=by
 have hm:=xg c (b-a);refine⟨?_,?_,by rw[hm.2];exact h.d0,by rw[hm.2];exact h.d1,by rw[hm.1];exact h.m0,by rw[hm.1];exact h.m1,?_,?_,h.cp⟩
 ·rcases(show c.mode=0\/c.mode=1\/(c.mode=2\/c.mode=3\/c.mode=4) by have:=h.m0;have:=h.m1;omega)with h0|h0|h0
  ·rw[Z8 h0];exact h.p0
  ·obtain⟨t,h1,h2⟩:=hT (by omega);rw[xh h0];have:=(h1.rd h0).1;have p0:=h.p0
   show 0<=c.pos+c.dir*(b-a)
   rcases vp h.d0 h.d1 with e|e|e<;>rw[e]at this⊢<;>omega
  ·rw[kX h0];exact h.p0
 ·rcases(show c.mode=0\/c.mode=1\/(c.mode=2\/c.mode=3\/c.mode=4) by have:=h.m0;have:=h.m1;omega)with h0|h0|h0
  ·rw[Z8 h0];exact h.p1
  ·obtain⟨t,h1,h2⟩:=hT (by omega);rw[xh h0];have:=(h1.rd h0).2;have p1:=h.p1
   show c.pos+c.dir*(b-a)<=127*s.gap
   rcases vp h.d0 h.d1 with e|e|e<;>rw[e]at this⊢<;>omega
  ·rw[kX h0];exact h.p1
 ·rw[hm.1];intro h0;have h3:=h.lf h0;obtain⟨t,h1,h2⟩:=hT (by omega);have:=h1.dr h0;rw[kX h0]
  show 1<=c.left-(b-a)/\c.left-(b-a)<=64
  omega
 ·rcases(show c.mode=0\/c.mode=1\/(c.mode=2\/c.mode=3\/c.mode=4) by have:=h.m0;have:=h.m1;omega)with h0|h0|h0
  ·rw[Z8 h0];exact h.l0
  ·rw[xh h0];exact h.l0
  ·have h3:=h.lf h0;obtain⟨t,h1,h2⟩:=hT (by omega);have:=h1.dr h0;rw[kX h0]
   show 0<=c.left-(b-a)/\c.left-(b-a)<=64
   omega
variable{I T:Int}{trips trips':List Tr}{W W':HK->List Wt}{R:List (List Rid)}{i:Nat}
theorem CarR.w(h:CarR s I T c l trips W c' l' trips' W')(hs:s.ok)(hw:CarW s c l):CarW s c' l':=by
 rcases h with⟨hm,h1,rfl,rfl,rfl⟩|⟨hm,rfl,rfl,rfl,rfl⟩|⟨hm,hl,rfl,rfl,rfl,rfl⟩|⟨hm,hl,D,D0,D1,h1⟩
 ·have ho:=hs.opn;rcases h1.m with⟨e1,e2,e3⟩|⟨e1,e2⟩|⟨e1,e2,e3⟩|⟨e1,e2,e3⟩<;>exact⟨h1.p0,h1.p1,h1.d0,h1.d1,by omega,by omega,fun h=>by omega,by have:=hw.l0;omega,hw.cp⟩
 ·have:=hw.lf (by omega);split
  ·exact⟨hw.p0,hw.p1,hw.d0,hw.d1,by simp,by simp,fun h=>by simp at h,by simp,hw.cp⟩
  ·exact⟨hw.p0,hw.p1,hw.d0,hw.d1,hw.m0,hw.m1,fun h=>(show 1<=c.left-1/\c.left-1<=64 by omega),(show 0<=c.left-1/\c.left-1<=64 by omega),hw.cp⟩
 ·have:=hw.lf (by omega);exact⟨hw.p0,hw.p1,hw.d0,hw.d1,hw.m0,hw.m1,fun h=>(show 1<=c.left-1/\c.left-1<=64 by omega),(show 0<=c.left-1/\c.left-1<=64 by omega),hw.cp⟩
 ·obtain⟨e1,e2,e3,e4⟩:=h1.car hs;have e1:c'.pos=c.pos:=e1;exact⟨by rw[e1];exact hw.p0,by rw[e1];exact hw.p1,by omega,by omega,by omega,by omega,fun _=>e4,by omega,h1.cap hw.cp⟩
theorem fe{α:Type}{l:List α}{i:Nat}{x:α}(h:l[i]?=some x):l.set i x=l:=by
 apply List.ext_getElem?;intro j;rw[List.getElem?_set];split
 ·rename_i e;subst e;split
  ·exact h.symm
  ·rename_i e;rw[List.getElem?_eq_none (by omega)]
 ·rfl
theorem CarR.inv(h:CarR s I T c l trips W c' l' trips' W')(hi:Inv T trips W R)(hl:R[i]?=some l)(hT:0<=T):Inv T trips' W' (R.set i l'):=by
 rcases h with⟨hm,h1,rfl,rfl,rfl⟩|⟨hm,rfl,rfl,rfl,rfl⟩|⟨hm,hl9,rfl,rfl,rfl,rfl⟩|⟨hm,hl9,D,D0,D1,h1⟩
 ·rw[fe hl];exact hi
 ·rw[fe hl];exact hi
 ·rw[fe hl];exact hi
 ·exact h1.inv hi hl hT
theorem CarR.len(h:CarR s I T c l trips W c' l' trips' W'):trips'.length=trips.length:=by
 rcases h with⟨hm,h1,rfl,rfl,rfl⟩|⟨hm,rfl,rfl,rfl,rfl⟩|⟨hm,hl,rfl,rfl,rfl,rfl⟩|⟨hm,hl,D,D0,D1,h1⟩
 ·rfl
 ·rfl
 ·rfl
 ·exact h1.len
end
structure EInv(s:Sc)(tau T:Int)(P:List Pa)(L:List Ca)(at_:List Int)(trips:List Tr)(W:HK->List Wt)(l:List En)(ex:Nat->Prop):Prop where
 len:at_.length=L.length
 car:∀ x∈L,CarW s x.c x.l
 at0:∀ a∈at_,0<=a
 inv:Inv T trips W (L.map (·.l))
 T0:0<=T
 tT:T<=tau
 low:∀ e∈l,tau<=e.t
 ev:∀ e∈l,(e.k=1/\∃(j:Nat)(x:Ca)(a:Int),e.i=j/\L[j]?=some x/\at_[j]?=some a/\CarT s.gap x.c a e.t)\/(e.k=0/\e.i=0/\∃ p P',P=p::P'/\e.t=p.tick)
 lk:∀(j:Nat) x,L[j]?=some x->¬ ex j->x.c.mode≠0->∃ e∈l,e.k=1/\e.i=j
 ps:Pas trips.length P
section
variable{s:Sc}{tau T:Int}{P P':List Pa}{L:List Ca}{at_:List Int}{trips trips':List Tr}{W W':HK->List Wt}{l l':List En}{ex ex':Nat->Prop}{j:Nat}{x y:Ca}{a b:Int}{p:Pa}{e:En}
theorem Ux(hj:L[j]?=some x)(c:Cr):(L.set j {x with c:=c}).map (·.l)=L.map (·.l):=by
 rw[List.map_set];exact fe (by rw[List.getElem?_map,hj];rfl)
theorem EInv.adv(H:EInv s tau T P L at_ trips W l ex)(hj:L[j]?=some x)(ha:at_[j]?=some a)(hab:a<=b)(hT:x.c.mode≠0->∃ t,CarT s.gap x.c a t/\b<=t)(he:∀ e∈l,e.k=1->e.i=j->b<=e.t):
  EInv s tau T P (L.set j {x with c:=aft x.c (b-a)}) (at_.set j b) trips W l ex where
 len:=by rw[List.length_set,List.length_set];exact H.len
 car:=fun z hz=>by
  obtain⟨k,hk⟩:=List.getElem?_of_mem hz;rcases zx hk with⟨-,rfl,-⟩|⟨-,hk⟩
  ·exact(H.car x (List.mem_of_getElem? hj)).aft hT hab
  ·exact H.car z (List.mem_of_getElem? hk)
 at0:=fun z hz=>by
  obtain⟨k,hk⟩:=List.getElem?_of_mem hz;rcases zx hk with⟨-,rfl,-⟩|⟨-,hk⟩
  ·have:=H.at0 a (List.mem_of_getElem? ha);omega
  ·exact H.at0 z (List.mem_of_getElem? hk)
 inv:=by rw[Ux hj];exact H.inv
 T0:=H.T0
 tT:=H.tT
 low:=H.low
 ev:=fun e hm=>by
  rcases H.ev e hm with⟨h1,k,z,d,h2,h3,h4,h5⟩|h
  ·refine .inl ⟨h1,?_⟩;by_cases hk:j=k
   ·subst hk;have e1:=Option.some.inj (h3.symm.trans hj);have e2:=Option.some.inj (h4.symm.trans ha);subst e1;subst e2;exact⟨j,_,b,h2,by rw[List.getElem?_set,if_pos rfl,if_pos (List.getElem?_eq_some_iff.1 hj).1],by rw[List.getElem?_set,if_pos rfl,if_pos (List.getElem?_eq_some_iff.1 ha).1],h5.aft hab (he e hm h1 h2)⟩
   ·exact⟨k,z,d,h2,by rw[List.getElem?_set,if_neg hk];exact h3,by rw[List.getElem?_set,if_neg hk];exact h4,h5⟩
  ·exact .inr h
 lk:=fun k z hz hx hm=>by
  rcases zx hz with⟨rfl,rfl,-⟩|⟨-,hz⟩
  ·exact H.lk j x hj hx (by have:=(xg x.c (b-a)).1;simpa[this]using hm)
  ·exact H.lk k z hz hx hm
 ps:=H.ps
theorem EInv.plan(H:EInv s tau T P L at_ trips W l ex)(hj:L[j]?=some x)(ha:at_[j]?=some a)(ht:tau<=a){N:Int}(hN:NextP s.gap x.c N)(hl:l'.Perm (⟨a+N-1,1,j⟩::wo l 1 j)):
  EInv s tau T P L at_ trips W l' (fun k=>ex k/\k≠j) where
 len:=H.len
 car:=H.car
 at0:=H.at0
 inv:=H.inv
 T0:=H.T0
 tT:=H.tT
 low:=fun e he=>by
  rcases List.mem_cons.1 (hl.mem_iff.1 he)with rfl|he
  ·have:=hN.n0;show tau<=a+N-1;omega
  ·exact H.low e (zY.1 he).1
 ev:=fun e he=>by
  rcases List.mem_cons.1 (hl.mem_iff.1 he)with rfl|he
  ·have n0:=hN.n0;refine .inl ⟨rfl,j,x,a,rfl,hj,ha,⟨by show a<=a+N-1;omega,fun h=>?_,fun h=>?_⟩⟩
   ·have:=hN.door h;show a+N-1=a+x.c.left-1;omega
   ·have:=hN.ride h;rw[show(⟨a+N-1,1,(j:Int)⟩:En).t-a=N-1 by show a+N-1-a=N-1;omega];exact this
  ·exact H.ev e (zY.1 he).1
 lk:=fun k z hz hx hm=>by
  by_cases hk:k=j
  ·subst hk;exact⟨_,hl.mem_iff.2 (List.mem_cons_self ..),rfl,rfl⟩
  ·obtain⟨e,h1,h2,h3⟩:=H.lk k z hz (fun h=>hx ⟨h,hk⟩) hm;exact⟨e,hl.mem_iff.2 (List.mem_cons_of_mem _ (zY.2 ⟨h1,fun h=>hk (by have:=h.2;omega)⟩)),h2,h3⟩
 ps:=H.ps
theorem EInv.rest(H:EInv s tau T P L at_ trips W l ex)(hj:L[j]?=some x)(hm:x.c.mode=0):EInv s tau T P L at_ trips W (wo l 1 j) (fun k=>ex k/\k≠j) where
 len:=H.len
 car:=H.car
 at0:=H.at0
 inv:=H.inv
 T0:=H.T0
 tT:=H.tT
 low:=fun e he=>H.low e (zY.1 he).1
 ev:=fun e he=>H.ev e (zY.1 he).1
 lk:=fun k z hz hx hm'=>by
  by_cases hk:k=j
  ·subst hk;rw[hj]at hz;cases hz;exact absurd hm hm'
  ·obtain⟨e,h1,h2,h3⟩:=H.lk k z hz (fun h=>hx ⟨h,hk⟩) hm';exact⟨e,zY.2 ⟨h1,fun h=>hk (by have:=h.2;omega)⟩,h2,h3⟩
 ps:=H.ps
theorem EInv.ex_mono(H:EInv s tau T P L at_ trips W l ex)(h:∀ k,k<L.length->ex k->ex' k):EInv s tau T P L at_ trips W l ex':=
 ⟨H.len,H.car,H.at0,H.inv,H.T0,H.tT,H.low,H.ev,fun k z hz hx hm=>H.lk k z hz (fun h'=>hx (h k (List.getElem?_eq_some_iff.1 hz).1 h')) hm,H.ps⟩
theorem EInv.next(H:EInv s tau T (p::P') L at_ trips W l ex)(hp:tau<=p.tick)(hl:l'.Perm (⟨p.tick,0,0⟩::wo l 0 0)):EInv s tau T (p::P') L at_ trips W l' ex where
 len:=H.len
 car:=H.car
 at0:=H.at0
 inv:=H.inv
 T0:=H.T0
 tT:=H.tT
 low:=fun e he=>by
  rcases List.mem_cons.1 (hl.mem_iff.1 he)with rfl|he
  ·exact hp
  ·exact H.low e (zY.1 he).1
 ev:=fun e he=>by
  rcases List.mem_cons.1 (hl.mem_iff.1 he)with rfl|he
  ·exact .inr ⟨rfl,rfl,p,P',rfl,rfl⟩
  ·exact H.ev e (zY.1 he).1
 lk:=fun k z hz hx hm=>by
  obtain⟨e,h1,h2,h3⟩:=H.lk k z hz hx hm;exact⟨e,hl.mem_iff.2 (List.mem_cons_of_mem _ (zY.2 ⟨h1,fun h=>by omega⟩)),h2,h3⟩
 ps:=H.ps
theorem EInv.adm(H:EInv s tau T (p::P') L at_ trips W l ex)(hk:∀ e∈l,e.k≠0)(hp:p.tick<=T)(k:HK)(wt:Wt)(hw:wt.id=p.id)(tr:Tr)(h0:tr.ar=p.tick)(h1:tr.bo=-1)(h2:tr.al=-1):
  EInv s tau T P' L at_ (trips++[tr]) (qf W k (W k++[wt])) l ex where
 len:=H.len
 car:=H.car
 at0:=H.at0
 inv:=H.inv.adm tr wt k (by rw[h0];exact(H.ps.ok p (List.mem_cons_self ..)).1) (by rw[h0];exact hp) h1 h2 (by rw[hw,H.ps.id 0 p rfl];rfl)
 T0:=H.T0
 tT:=H.tT
 low:=H.low
 ev:=fun e he=>by
  rcases H.ev e he with h|h
  ·exact .inl h
  ·exact absurd h.1 (hk e he)
 lk:=H.lk
 ps:=by rw[List.length_append];exact H.ps.tail
theorem EInv.step(hs:s.ok)(H:EInv s tau T P L at_ trips W l ex)(hj:L[j]?=some x)(hex:ex j)(he:∀ e∈l,¬(e.k=1/\e.i=j))(hr:CarR s j T x.c x.l trips W y.c y.l trips' W'):EInv s tau T P (L.set j y) at_ trips' W' l ex where
 len:=by rw[List.length_set];exact H.len
 car:=fun z hz=>by
  obtain⟨k,hk⟩:=List.getElem?_of_mem hz;rcases zx hk with⟨-,rfl,-⟩|⟨-,hk⟩
  ·exact hr.w hs (H.car x (List.mem_of_getElem? hj))
  ·exact H.car z (List.mem_of_getElem? hk)
 at0:=H.at0
 inv:=by rw[List.map_set];exact hr.inv H.inv (by rw[List.getElem?_map,hj];rfl) H.T0
 T0:=H.T0
 tT:=H.tT
 low:=H.low
 ev:=fun e hm=>by
  rcases H.ev e hm with⟨h1,k,z,d,h2,h3,h4,h5⟩|h
  ·have hk:j≠k:=fun h=>he e hm ⟨h1,by rw[h2,h]⟩
   exact .inl ⟨h1,k,z,d,h2,by rw[List.getElem?_set,if_neg hk];exact h3,h4,h5⟩
  ·exact .inr h
 lk:=fun k z hz hx hm=>by
  rcases zx hz with⟨rfl,rfl,-⟩|⟨-,hz⟩
  ·exact absurd hex hx
  ·exact H.lk k z hz hx hm
 ps:=by rw[hr.len];exact H.ps
theorem EInv.tick(H:EInv s tau T P L at_ trips W l ex)(ha:at_[j]?=some a)(hab:a<=b)(he:∀ e∈l,¬(e.k=1/\e.i=j)):EInv s tau T P L (at_.set j b) trips W l ex where
 len:=by rw[List.length_set];exact H.len
 car:=H.car
 at0:=fun z hz=>by
  obtain⟨k,hk⟩:=List.getElem?_of_mem hz;rcases zx hk with⟨-,rfl,-⟩|⟨-,hk⟩
  ·have:=H.at0 a (List.mem_of_getElem? ha);omega
  ·exact H.at0 z (List.mem_of_getElem? hk)
 inv:=H.inv
 T0:=H.T0
 tT:=H.tT
 low:=H.low
 ev:=fun e hm=>by
  rcases H.ev e hm with⟨h1,k,z,d,h2,h3,h4,h5⟩|h
  ·have hk:j≠k:=fun h=>he e hm ⟨h1,by rw[h2,h]⟩
   exact .inl ⟨h1,k,z,d,h2,h3,by rw[List.getElem?_set,if_neg hk];exact h4,h5⟩
  ·exact .inr h
 lk:=H.lk
 ps:=H.ps
theorem EInv.time(H:EInv s tau T P L at_ trips W l ex){T':Int}(h1:T<=T')(h2:T'<=tau):EInv s tau T' P L at_ trips W l ex:=
 ⟨H.len,H.car,H.at0,H.inv.later h1,Int.le_trans H.T0 h1,h2,H.low,H.ev,H.lk,H.ps⟩
theorem EInv.tau_(H:EInv s tau T P L at_ trips W l ex){tau':Int}(h1:tau<=tau')(h2:∀ e∈l,tau'<=e.t):EInv s tau' T P L at_ trips W l ex:=
 ⟨H.len,H.car,H.at0,H.inv,H.T0,Int.le_trans H.tT h1,h2,H.ev,H.lk,H.ps⟩
theorem GA{a b:En}(h:HeapP.le a b):a.t<=b.t/\(a.t=b.t->a.k<=b.k/\(a.k=b.k->a.i<=b.i)):=by
 unfold HeapP.le lt at h;split at h
 ·have:=of_decide_eq_false h;omega
 ·split at h
  ·have:=of_decide_eq_false h;omega
  ·have:=of_decide_eq_false h;omega
theorem EInv.pop(H:EInv s tau T P L at_ trips W (e::l) ex)(hs:Zo (e::l)):EInv s e.t T P L at_ trips W l (fun k=>ex k\/(e.k=1/\e.i=k)) where
 len:=H.len
 car:=H.car
 at0:=H.at0
 inv:=H.inv
 T0:=H.T0
 tT:=Int.le_trans H.tT (H.low e (List.mem_cons_self ..))
 low:=fun f hf=>(GA ((List.pairwise_cons.1 hs).1 f hf)).1
 ev:=fun f hf=>H.ev f (List.mem_cons_of_mem _ hf)
 lk:=fun k z hz hx hm=>by
  obtain⟨f,h1,h2,h3⟩:=H.lk k z hz (fun h=>hx (.inl h)) hm;rcases List.mem_cons.1 h1 with rfl|h1
  ·exact absurd (.inr ⟨h2,h3⟩) hx
  ·exact⟨f,h1,h2,h3⟩
 ps:=H.ps
theorem cO(H:EInv s tau T P L at_ trips W (e::l) ex)(hs:Zo (e::l))(hu:Uq (e::l))(hk:e.k=1):∀ f∈l,f.k=1/\f.i≠e.i/\(f.i<e.i->e.t+1<=f.t)\/f.k=0/\e.t+1<=f.t:=fun f hf=>by
 have h1:=GA ((List.pairwise_cons.1 hs).1 f hf);have h2:=(List.pairwise_cons.1 hu).1 f hf;rcases H.ev f (List.mem_cons_of_mem _ hf)with⟨h3,-⟩|⟨h3,-⟩
 ·refine .inl ⟨h3,fun h=>h2 ⟨by omega,h.symm⟩,fun h=>?_⟩;by_cases h4:e.t=f.t
  ·have:=(h1.2 h4).2 (by omega);omega
  ·omega
 ·refine .inr ⟨h3,?_⟩;by_cases h4:e.t=f.t
  ·have:=(h1.2 h4).1;omega
  ·omega
def zM(u:Int)(P:List Pa)(at_:List Int):Nat:=P.length+(at_.map fun a=>(u-a).toNat).sum
theorem xa(f:Int->Nat):∀(l:List Int)(j:Nat)(a b:Int),l[j]?=some a->((l.set j b).map f).sum+f a=(l.map f).sum+f b
 |[],j,a,b,h=>by simp at h
 |x::l,0,a,b,h=>by simp at h;subst h;simp;omega
 |x::l,j+1,a,b,h=>by
  have:=xa f l j a b (by simpa using h);simp only[List.set_cons_succ,List.map_cons,List.sum_cons];omega
theorem GB{u:Int}(ha:at_[j]?=some a)(hab:a<=b):zM u P (at_.set j b)<=zM u P at_:=by
 have:=xa (fun a=>(u-a).toNat) at_ j a b ha;unfold zM;have h2:(u-b).toNat<=(u-a).toNat:=by omega
 omega
theorem Uy{u:Int}(ha:at_[j]?=some a)(hab:a<b)(hu:b<=u):zM u P (at_.set j b)+1<=zM u P at_:=by
 have:=xa (fun a=>(u-a).toNat) at_ j a b ha;unfold zM;have h2:(u-b).toNat+1<=(u-a).toNat:=by omega
 omega
theorem EInv.fresh(hc:∀ x∈L,CarW s x.c x.l/\x.l=[]/\x.c.mode=0)(ha:∀ a∈at_,a=0)(hn:at_.length=L.length)(hp:Pas 0 P):EInv s 0 0 P L at_ [] (fun _=>[]) [] (fun _=>False) where
 len:=hn
 car:=fun x hx=>(hc x hx).1
 at0:=fun a h=>by rw[ha a h];exact Int.le_refl _
 inv:=Inv.none _ (fun l hl=>by obtain⟨x,hx,rfl⟩:=List.mem_map.1 hl;exact(hc x hx).2.1) 0
 T0:=Int.le_refl _
 tT:=Int.le_refl _
 low:=fun e he=>by cases he
 ev:=fun e he=>by cases he
 lk:=fun j x hj _ hm=>absurd (hc x (List.mem_of_getElem? hj)).2.2 hm
 ps:=hp
end
structure Egs where
 (wb h:Nat)
 S:HS
 (cv tv:Value)
 L:List Ca
 trips:List Tr
 T:Int
 F:Fr
 g:Nat
 m:Option Nat
 nm:Nat
 (HL l:List En)
 pA:Option Addr
 (pn pc:Nat)
 P:List Pa
 ab:Nat
 at_:List Int
 (yb yn yc:Nat)
 Y:List Bu
 G:List (List Lg)
 evn:Int
 tag:Nat->Nat
structure EgTag(base x:Nat)(E:Egs)(z:Nat):Prop where
 lo:∀ k,E.tag k≠0->base<=k/\k<z
 t1:∀ k,Wx E.wb E.h E.S E.cv E.tv k\/RBk E.L k->E.tag k=1
 t2:∀ k,Xb x E.g E.m k->E.tag k=2
 t3:E.tag E.ab=3
 t4:E.tag E.yb=4
 t5:∀ i b,E.Y[i]?=some b->∀ k,b.v.ownBlock=some k->E.tag k=5+i
structure Eg(base:Nat)(s:Sc)(sA:Option Addr)(sn sk x:Nat)(E:Egs)(w:World):Prop where
 wd:Wd base s sA sn sk E.wb E.h w E.S E.cv E.tv E.L E.trips E.T
 cs:Cs w x E.F E.g E.m E.nm E.HL E.l
 f0:E.F 0=(some (.pointer (some ⟨E.wb,0,none⟩)),false)
 f1:E.F 1=(some (.slice E.pA E.pn E.pc),false)
 f4:E.F 4=(some (.slice (some ⟨E.ab,0,none⟩) E.at_.length E.at_.length),false)
 f5:E.F 5=(some (.slice (some ⟨E.yb,0,none⟩) E.yn E.yc),false)
 f6:E.F 6=(some (O J E.evn),false)
 ao:Own w base 3 1 (fa .i64) (.slice (some ⟨E.ab,0,none⟩) E.at_.length E.at_.length) E.at_
 wy:∀ i b,E.Y[i]?=some b->∃ l,E.G[i]?=some l/\Way w base E.yb E.yn E.yc E.Y i b l
 yl:E.Y.length=E.yn/\E.yn<=E.yc
 gl:E.G.length=E.yn
 pe:Rd w base 4 E.pA E.pn (E.P.flatMap Wl)
 pl:E.P.length=E.pn/\E.pn<=E.pc
 bs:base<=w.heap.size
 tg:EgTag base x E w.heap.size
def Wm(t:Nat->Nat)(j a b:Nat):Nat->Nat:=fun k=>if k<a then t k else if k<b then j else 0
theorem Qs{t:Nat->Nat}{j a b k:Nat}(h:k<a):Wm t j a b k=t k:=by unfold Wm;rw[if_pos h]
theorem Qt{t:Nat->Nat}{j a b k:Nat}(h:a<=k)(h':k<b):Wm t j a b k=j:=by unfold Wm;rw[if_neg (by omega),if_pos h']
section
variable{base:Nat}{s:Sc}{sA:Option Addr}{sn sk x:Nat}{E:Egs}{w w':World}
theorem Mp.keptB{X:Nat->Prop}{w w':World}{m:Option Nat}{n:Nat}{l:List En}(h:Mp w m n l)(ho:But X w w')(hx:∀ b,m=some b->¬ X b):Mp w' m n l:=by
 rcases h with h|⟨b,D,h1,⟨es,clock,k1,k2,k3,k4⟩,h3⟩
 ·exact .inl h
 ·have hl:b<w.heap.size:=(Array.getElem?_eq_some_iff.1 k1).1;exact .inr ⟨b,D,h1,⟨es,clock,(ho.block b hl (hx b h1)).trans k1,k2,k3,k4⟩,h3⟩
theorem Cs.but{X:Nat->Prop}{w w':World}{p g n:Nat}{F:Fr}{m:Option Nat}{L l:List En}(h:Cs w p F g m n L l)(hb:But X w w')(hx:∀ k,Xb p g m k->¬ X k):Cs w' p F g m n L l:=by
 have hp:=hb.block p h.pl (hx p (.inl rfl));exact⟨h.hp.kept hb.size hp (hb.block g h.hp.gl (hx g (.inr (.inl rfl)))),(World.cell?_of_block (a:=⟨p,3,none⟩) hp).trans h.mc,(World.frozen?_of_block (a:=⟨p,3,none⟩) hp).trans h.mf,h.ch,
  Mp.keptB h.mp hb (fun b hm=>hx b (.inr (.inr hm))),h.ne,fun o h1 h2=>⟨(World.cell?_of_block (a:=⟨p,o,none⟩) hp).trans (h.re o h1 h2).1,(World.frozen?_of_block (a:=⟨p,o,none⟩) hp).trans (h.re o h1 h2).2⟩⟩
theorem Cs.setF{w:World}{p g n:Nat}{F:Fr}{m:Option Nat}{L l:List En}(h:Cs w p F g m n L l){o:Nat}(h2:o≠2)(h3:o≠3){u0:Value}(h0:F o=(some u0,false))(u:Value):
  Cs (w.setCell ⟨p,o,none⟩ u) p (fun k=>if k=o then(some u,false)else F k) g m n L l/\But (fun k=>k=p) w (w.setCell ⟨p,o,none⟩ u):=by
 have hc0:w.cell? ⟨p,o,none⟩=some u0:=by rw[(h.re o h2 h3).1,h0]
 have hf0:w.frozen? ⟨p,o,none⟩=false:=by rw[(h.re o h2 h3).2,h0]
 have other:∀ k,k≠o->(w.setCell ⟨p,o,none⟩ u).cell? ⟨p,k,none⟩=w.cell? ⟨p,k,none⟩:=fun k hk=>World.cell?_setCell_other _ _ _ _ (by intro e;injection e with _ e _;exact hk e.symm)
 have hpl:=h.pl;have hgl:=h.hp.gl;have hB:But (fun k=>k=p) w (w.setCell ⟨p,o,none⟩ u):=(But.refl (fun k=>k=p) w).at1 rfl o u;refine⟨⟨?_,(other 3 (Ne.symm h3)).trans h.mc,by rw[World.frozen?_setCell];exact h.mf,h.ch,Mp.keptB h.mp hB (fun b hb e=>(h.ne b hb).1 e),h.ne,fun k k2 k3=>?_⟩,hB⟩
 ·obtain⟨v,h1,h2',h3',h4,h5⟩:=h.hp;refine⟨v,(other 2 (Ne.symm h2)).trans h1,by rw[World.frozen?_setCell];exact h2',by simpa using h3',h4.other fun b k c hv=>Below.heap_setCell _ _ _ _ ?_,?_⟩
  ·rcases h5 with⟨rfl,_⟩|⟨c',rfl,_,hg,_⟩
   ·simp at hv
   ·simp at hv;obtain⟨rfl,_⟩:=hv;exact hg
  ·rcases h5 with h5|⟨c,h6,h7,h8,h9⟩
   ·exact .inl h5
   ·exact .inr ⟨c,h6,h7,h8,by simpa using h9⟩
 ·by_cases hk:k=o
  ·subst hk;rw[if_pos rfl];exact⟨World.cell?_setCell_same _ _ _ hc0,by rw[World.frozen?_setCell];exact hf0⟩
  ·rw[if_neg hk];exact⟨(other k hk).trans (h.re k k2 k3).1,by rw[World.frozen?_setCell];exact(h.re k k2 k3).2⟩
theorem Way.but{X:Nat->Prop}{w w':World}{base yb n c:Nat}{Y:List Bu}{i:Nat}{b:Bu}{l:List Lg}(h:Way w base yb n c Y i b l)(hb:But X w w')(h1:¬ X yb)(h2:∀ k,b.v.ownBlock=some k->¬ X k):Way w' base yb n c Y i b l:=
 ⟨h.own.but hb (fun k hk=>by cases hk;exact h1),h.len,h.at_,h.legs.but hb h2,h.ne,h.ok,h.t0,h.t1,h.n0,h.n1,h.ll⟩
theorem EgTag.up(h:EgTag base x E w.heap.size)(hz:w.heap.size<=w'.heap.size)(j:Nat)(hb:base<=w.heap.size):∀ k,Wm E.tag j w.heap.size w'.heap.size k≠0->base<=k/\k<w'.heap.size:=fun k hk=>by
 unfold Wm at hk;split at hk
 ·have:=h.lo k hk;omega
 ·split at hk
  ·omega
  ·exact absurd rfl hk
theorem EgTag.lt(h:EgTag base x E w.heap.size){k j:Nat}(hk:E.tag k=j)(hj:0<j):k<w.heap.size:=(h.lo k (by omega)).2
theorem EgTag.keep(h:EgTag base x E w.heap.size){k i j:Nat}(hk:E.tag k=i)(hi:0<i)(b:Nat):Wm E.tag j w.heap.size b k=i:=by rw[Qs (h.lt hk hi)];exact hk
theorem Eg.apart{i j:Nat}{X:Nat->Prop}(hX:∀ k,X k->E.tag k=j)(hij:i≠j){k:Nat}(hk:E.tag k=i):¬ X k:=fun h=>hij (hk.symm.trans (hX k h))
theorem Eg.rows{X:Nat->Prop}(H:Eg base s sA sn sk x E w)(hb:But X w w')(hX:∀ k,X k->E.tag k≠0):Below base w w':=hb.below (fun k hk=>(H.tg.lo k (hX k hk)).1) H.bs
theorem Eg.world(H:Eg base s sA sn sk x E w){S':HS}{cv' tv':Value}{L':List Ca}{trips':List Tr}{T':Int}(hn:WdN base s sA sn sk E.wb E.h w E.S E.cv E.tv E.L w' S' cv' tv' L' trips' T'):
  Eg base s sA sn sk x {E with S:=S',cv:=cv',tv:=tv',L:=L',trips:=trips',T:=T',tag:=Wm E.tag 1 w.heap.size w'.heap.size} w'/\Below base w w':=by
 have hX:∀ k,Wx E.wb E.h E.S E.cv E.tv k->E.tag k=1:=fun k hk=>H.tg.t1 k (.inl hk)
 have hB:=H.rows hn.but (fun k hk=>by rw[hX k hk];omega);refine⟨⟨hn.wd,Cs.but H.cs hn.but (fun k hk=>Eg.apart hX (by omega) (H.tg.t2 k hk)),H.f0,H.f1,H.f4,H.f5,H.f6,H.ao.but hn.but (fun k hk=>by cases hk;exact Eg.apart hX (by omega) H.tg.t3),fun i b hi=>?_,H.yl,H.gl,H.pe.below hB,H.pl,Nat.le_trans H.bs hn.but.size,⟨H.tg.up hn.but.size 1 H.bs,?_,fun k hk=>H.tg.keep (H.tg.t2 k hk) (by omega) _,H.tg.keep H.tg.t3 (by omega) _,H.tg.keep H.tg.t4 (by omega) _,fun i b hi k hk=>H.tg.keep (H.tg.t5 i b hi k hk) (by omega) _⟩⟩,hB⟩
 ·obtain⟨l,h1,h2⟩:=H.wy i b hi;exact⟨l,h1,Way.but h2 hn.but (Eg.apart hX (by omega) H.tg.t4) (fun k hk=>Eg.apart hX (by omega) (H.tg.t5 i b hi k hk))⟩
 ·intro k hk;rcases Nat.lt_or_ge k w.heap.size with h1|h1
  ·show Wm _ _ _ _ k=1
   rw[Qs h1];refine H.tg.t1 k ?_;rcases hk with hk|hk
   ·exact .inl (hn.x k h1 hk)
   ·exact .inr (hn.r k h1 hk)
  ·refine Qt h1 ?_;rcases hk with hk|hk
   ·exact(hn.wd.xlt hk).2
   ·exact(hn.wd.s4 k hk).2.1
theorem Eg.cal(H:Eg base s sA sn sk x E w){g':Nat}{m':Option Nat}{n':Nat}{HL' l':List En}(hc:Cs w' x E.F g' m' n' HL' l')(hb:But (Xb x E.g E.m) w w')(hx:∀ k,k<w.heap.size->Xb x g' m' k->Xb x E.g E.m k):
  Eg base s sA sn sk x {E with g:=g',m:=m',nm:=n',HL:=HL',l:=l',tag:=Wm E.tag 2 w.heap.size w'.heap.size} w'/\Below base w w':=by
 have hX:∀ k,Xb x E.g E.m k->E.tag k=2:=H.tg.t2;have hB:=H.rows hb (fun k hk=>by rw[hX k hk];omega);refine⟨⟨H.wd.but_ hb (fun k hk=>Eg.apart hX (by omega) (H.tg.t1 k (.inl hk))) (fun k hk=>Eg.apart hX (by omega) (H.tg.t1 k (.inr hk))),hc,H.f0,H.f1,H.f4,H.f5,H.f6,H.ao.but hb (fun k hk=>by cases hk;exact Eg.apart hX (by omega) H.tg.t3),fun i b hi=>?_,H.yl,H.gl,H.pe.below hB,H.pl,Nat.le_trans H.bs hb.size,⟨H.tg.up hb.size 2 H.bs,fun k hk=>H.tg.keep (H.tg.t1 k hk) (by omega) _,?_,H.tg.keep H.tg.t3 (by omega) _,H.tg.keep H.tg.t4 (by omega) _,fun i b hi k hk=>H.tg.keep (H.tg.t5 i b hi k hk) (by omega) _⟩⟩,hB⟩
 ·obtain⟨l,h1,h2⟩:=H.wy i b hi;exact⟨l,h1,Way.but h2 hb (Eg.apart hX (by omega) H.tg.t4) (fun k hk=>Eg.apart hX (by omega) (H.tg.t5 i b hi k hk))⟩
 ·intro k hk;rcases Nat.lt_or_ge k w.heap.size with h1|h1
  ·show Wm _ _ _ _ k=2
   rw[Qs h1];exact hX k (hx k h1 hk)
  ·exact Qt h1 (hc.xlt hk)
theorem Eg.way(H:Eg base s sA sn sk x E w){i:Nat}{b b':Bu}{l':List Lg}{k:Int}(hi:E.Y[i]?=some b)(hw:WayP w base E.yb E.yn E.yc E.Y i b k w' b' l'):
  Eg base s sA sn sk x {E with Y:=E.Y.set i b',G:=E.G.set i l',tag:=Wm E.tag (5+i) w.heap.size w'.heap.size} w'/\Below base w w':=by
 have hY:E.tag E.yb=4:=H.tg.t4;have hV:∀ k,b.v.ownBlock=some k->E.tag k=5+i:=H.tg.t5 i b hi;have hap:∀{j q:Nat},E.tag q=j->j≠4->j≠5+i->¬ (q=E.yb\/b.v.ownBlock=some q):=fun h h1 h2 hx=>by
  rcases hx with rfl|hx
  ·exact h1 (h.symm.trans hY)
  ·exact h2 (h.symm.trans (hV _ hx))
 have hB:=H.rows hw.but (fun k hk=>by rcases hk with rfl|hk;(rw[hY];omega);(rw[hV k hk];omega));have hil:i<E.yn:=by rw[<-H.yl.1];exact(List.getElem?_eq_some_iff.1 hi).1
 refine⟨⟨H.wd.but_ hw.but (fun k hk=>hap (H.tg.t1 k (.inl hk)) (by omega) (by omega)) (fun k hk=>hap (H.tg.t1 k (.inr hk)) (by omega) (by omega)),Cs.but H.cs hw.but (fun k hk=>hap (H.tg.t2 k hk) (by omega) (by omega)),H.f0,H.f1,H.f4,H.f5,H.f6,H.ao.but hw.but (fun k hk=>by cases hk;exact hap H.tg.t3 (by omega) (by omega)),fun j d hj=>?_,⟨by rw[List.length_set];exact H.yl.1,H.yl.2⟩,by rw[List.length_set];exact H.gl,H.pe.below hB,H.pl,Nat.le_trans H.bs hw.but.size,⟨H.tg.up hw.but.size (5+i) H.bs,fun k hk=>H.tg.keep (H.tg.t1 k hk) (by omega) _,fun k hk=>H.tg.keep (H.tg.t2 k hk) (by omega) _,H.tg.keep H.tg.t3 (by omega) _,H.tg.keep H.tg.t4 (by omega) _,?_⟩⟩,hB⟩
 ·rcases zx hj with⟨rfl,rfl,-⟩|⟨hne,hj⟩
  ·exact⟨l',by rw[List.getElem?_set,if_pos rfl,if_pos (by rw[H.gl];exact hil)],hw.way⟩
  ·obtain⟨l2,h1,h2⟩:=H.wy j d hj;refine⟨l2,by rw[List.getElem?_set,if_neg hne];exact h1,⟨hw.way.own,hw.way.len,by rw[List.getElem?_set,if_neg hne];exact hj,h2.legs.but hw.but (fun k hk=>hap (H.tg.t5 j d hj k hk) (by omega) (by omega)),h2.ne,h2.ok,h2.t0,h2.t1,h2.n0,h2.n1,h2.ll⟩⟩
 ·intro j d hj k hk;rcases zx hj with⟨rfl,rfl,-⟩|⟨hne,hj⟩
  ·rcases hw.new k hk with h1|h1
   ·exact H.tg.keep (hV k h1) (by omega) _
   ·exact Qt h1 (hw.way.legs.lt hk).2
  ·exact H.tg.keep (H.tg.t5 j d hj k hk) (by omega) _
theorem Eg.below(H:Eg base s sA sn sk x E w)(hb:Below w.heap.size w w'):Eg base s sA sn sk x E w' where
 wd:=H.wd.below hb
 cs:=H.cs.below hb
 f0:=H.f0
 f1:=H.f1
 f4:=H.f4
 f5:=H.f5
 f6:=H.f6
 ao:=H.ao.below hb
 wy:=fun i b hi=>by obtain⟨l,h1,h2⟩:=H.wy i b hi;exact⟨l,h1,h2.below hb⟩
 yl:=H.yl
 gl:=H.gl
 pe:=H.pe.below (hb.mono H.bs)
 pl:=H.pl
 bs:=Nat.le_trans H.bs hb.size
 tg:=⟨fun k hk=>⟨(H.tg.lo k hk).1,Nat.lt_of_lt_of_le (H.tg.lo k hk).2 hb.size⟩,H.tg.t1,H.tg.t2,H.tg.t3,H.tg.t4,H.tg.t5⟩
theorem Eg.cells(H:Eg base s sA sn sk x E w):(w.cell? ⟨x,0,none⟩=some (.pointer (some ⟨E.wb,0,none⟩))/\w.cell? ⟨x,1,none⟩=some (.slice E.pA E.pn E.pc)/\w.cell? ⟨x,4,none⟩=some (.slice (some ⟨E.ab,0,none⟩) E.at_.length E.at_.length)/\w.cell? ⟨x,5,none⟩=some (.slice (some ⟨E.yb,0,none⟩) E.yn E.yc)/\w.cell? ⟨x,6,none⟩=some (O J E.evn))/\w.frozen? ⟨x,1,none⟩=false/\w.frozen? ⟨x,6,none⟩=false:=
 ⟨⟨(H.cs.re 0 (by omega) (by omega)).1.trans (by rw[H.f0]),(H.cs.re 1 (by omega) (by omega)).1.trans (by rw[H.f1]),(H.cs.re 4 (by omega) (by omega)).1.trans (by rw[H.f4]),(H.cs.re 5 (by omega) (by omega)).1.trans (by rw[H.f5]),(H.cs.re 6 (by omega) (by omega)).1.trans (by rw[H.f6])⟩,(H.cs.re 1 (by omega) (by omega)).2.trans (by rw[H.f1]),(H.cs.re 6 (by omega) (by omega)).2.trans (by rw[H.f6])⟩
theorem Eg.box_(H:Eg base s sA sn sk x E w){F':Fr}{pA':Option Addr}{pn' pc':Nat}{P':List Pa}{ev':Int}{w':World}(hc:Cs w' x F' E.g E.m E.nm E.HL E.l)(hb:But (fun k=>k=x) w w')(hz:w'.heap.size=w.heap.size)
  (f0:F' 0=(some (.pointer (some ⟨E.wb,0,none⟩)),false))(f1:F' 1=(some (.slice pA' pn' pc'),false))(f4:F' 4=(some (.slice (some ⟨E.ab,0,none⟩) E.at_.length E.at_.length),false))(f5:F' 5=(some (.slice (some ⟨E.yb,0,none⟩) E.yn E.yc),false))(f6:F' 6=(some (O J ev'),false))(hp:Rd w base 4 pA' pn' (P'.flatMap Wl))(hpl:P'.length=pn'/\pn'<=pc'):
  Eg base s sA sn sk x {E with F:=F',pA:=pA',pn:=pn',pc:=pc',P:=P',evn:=ev'} w'/\Below base w w':=by
 have hx2:E.tag x=2:=H.tg.t2 x (.inl rfl);have hX:∀ k,k=x->E.tag k=2:=fun k hk=>by rw[hk];exact hx2
 have hB:=H.rows hb (fun k hk=>by rw[hX k hk];omega);refine⟨⟨H.wd.but_ hb (fun k hk=>Eg.apart hX (by omega) (H.tg.t1 k (.inl hk))) (fun k hk=>Eg.apart hX (by omega) (H.tg.t1 k (.inr hk))),hc,f0,f1,f4,f5,f6,H.ao.but hb (fun k hk=>by cases hk;exact Eg.apart hX (by omega) H.tg.t3),fun i b hi=>?_,H.yl,H.gl,hp.below hB,hpl,Nat.le_trans H.bs hb.size,?_⟩,hB⟩
 ·obtain⟨l,h1,h2⟩:=H.wy i b hi;exact⟨l,h1,Way.but h2 hb (Eg.apart hX (by omega) H.tg.t4) (fun k hk=>Eg.apart hX (by omega) (H.tg.t5 i b hi k hk))⟩
 ·exact⟨fun k hk=>by rw[hz];exact H.tg.lo k hk,H.tg.t1,H.tg.t2,H.tg.t3,H.tg.t4,H.tg.t5⟩
theorem Eg.count(H:Eg base s sA sn sk x E w)(v:Int):Eg base s sA sn sk x {E with F:=(fun k=>if k=6 then(some (O J v),false)else E.F k),evn:=v} (w.setCell ⟨x,6,none⟩ (O J v))/\Below base w (w.setCell ⟨x,6,none⟩ (O J v)):=by
 have h:=Cs.setF H.cs (o:=6) (by omega) (by omega) H.f6 (O J v);exact H.box_ h.1 h.2 (by simp) (by simpa using H.f0) (by simpa using H.f1) (by simpa using H.f4) (by simpa using H.f5) (by simp) H.pe H.pl
theorem Eg.next(H:Eg base s sA sn sk x E w){p:Pa}{P':List Pa}(hP:E.P=p::P'){B:Nat}{off:Nat}(hA:E.pA=some ⟨B,off,none⟩):
  Eg base s sA sn sk x {E with F:=(fun k=>if k=1 then(some (.slice (if E.pc=1 then some ⟨B,off,none⟩else some ⟨B,off+4,none⟩) (E.pn-1) (E.pc-1)),false)else E.F k),pA:=(if E.pc=1 then some ⟨B,off,none⟩else some ⟨B,off+4,none⟩),pn:=E.pn-1,pc:=E.pc-1,P:=P'} (w.setCell ⟨x,1,none⟩ (.slice (if E.pc=1 then some ⟨B,off,none⟩else some ⟨B,off+4,none⟩) (E.pn-1) (E.pc-1)))/\
   Below base w (w.setCell ⟨x,1,none⟩ (.slice (if E.pc=1 then some ⟨B,off,none⟩else some ⟨B,off+4,none⟩) (E.pn-1) (E.pc-1))):=by
 have h:=Cs.setF H.cs (o:=1) (by omega) (by omega) H.f1 (.slice (if E.pc=1 then some ⟨B,off,none⟩else some ⟨B,off+4,none⟩) (E.pn-1) (E.pc-1));have hpl:=H.pl;rw[hP]at hpl;simp only[List.length_cons]at hpl;refine H.box_ h.1 h.2 (by simp) (by simpa using H.f0) (by simp) (by simpa using H.f4) (by simpa using H.f5) (by simpa using H.f6) ?_ ⟨by omega,by omega⟩;have hr:=H.pe;rw[hP,hA]at hr;refine⟨by have:=hr.1;simp only[List.flatMap_cons,List.length_append,List.length_cons,List.length_nil]at this;omega,fun hn=>?_⟩;obtain⟨b,o,h1,h2,h3⟩:=hr.2 (by omega);cases h1;have hc1:¬ E.pc=1:=by omega
 refine⟨B,off+4,by rw[if_neg hc1],h2,fun j u hu=>?_⟩;have:=h3 (4+j) u (by simp only[List.flatMap_cons];rw[List.getElem?_append_right (by simp)];simpa using hu);rw[Nat.add_assoc];exact this
theorem Eg.through(H:Eg base s sA sn sk x E w)(i:Nat)(b:Int):Eg base s sA sn sk x {E with at_:=E.at_.set i b} (w.setCell ⟨E.ab,i,none⟩ (O J b))/\Below base w (w.setCell ⟨E.ab,i,none⟩ (O J b)):=by
 have hb:But (fun k=>k=E.ab) w (w.setCell ⟨E.ab,i,none⟩ (O J b)):=(But.refl (fun k=>k=E.ab) w).at1 rfl i _;have hX:∀ k,k=E.ab->E.tag k=3:=fun k hk=>by rw[hk];exact H.tg.t3
 have hB:=H.rows hb (fun k hk=>by rw[hX k hk];omega);have hz:(w.setCell ⟨E.ab,i,none⟩ (O J b)).heap.size=w.heap.size:=by simp
 refine⟨⟨H.wd.but_ hb (fun k hk=>Eg.apart hX (by omega) (H.tg.t1 k (.inl hk))) (fun k hk=>Eg.apart hX (by omega) (H.tg.t1 k (.inr hk))),Cs.but H.cs hb (fun k hk=>Eg.apart hX (by omega) (H.tg.t2 k hk)),H.f0,H.f1,?_,H.f5,H.f6,?_,fun j d hi=>?_,H.yl,H.gl,H.pe.below hB,H.pl,Nat.le_trans H.bs hb.size,?_⟩,hB⟩
 ·show E.F 4=(some (.slice _ (E.at_.set i b).length (E.at_.set i b).length),false)
  rw[List.length_set];exact H.f4
 ·show Own _ base _ 1 (fa .i64) (.slice _ (E.at_.set i b).length (E.at_.set i b).length) (E.at_.set i b)
  rw[List.length_set];exact(H.ao.store rfl i b).1
 ·obtain⟨l,h1,h2⟩:=H.wy j d hi;exact⟨l,h1,Way.but h2 hb (Eg.apart hX (by omega) H.tg.t4) (fun k hk=>Eg.apart hX (by omega) (H.tg.t5 j d hi k hk))⟩
 ·exact⟨fun k hk=>by rw[hz];exact H.tg.lo k hk,H.tg.t1,H.tg.t2,H.tg.t3,H.tg.t4,H.tg.t5⟩
theorem Wd.setT{wb h:Nat}{S:HS}{cv tv:Value}{L:List Ca}{trips:List Tr}{T:Int}(H:Wd base s sA sn sk wb h w S cv tv L trips T)(T':Int):WdN base s sA sn sk wb h w S cv tv L (w.setCell ⟨wb,16,none⟩ (O J T')) S cv tv L trips T':=by
 have hb:But (fun k=>k=wb) w (w.setCell ⟨wb,16,none⟩ (O J T')):=(But.refl (fun k=>k=wb) w).at1 rfl 16 _;refine⟨⟨H.bx.set 16 (O J T'),H.wl,H.hl.but hb (fun k hk e=>H.s1 (e▸hk)),H.hb,H.cr.but hb (fun p hp e=>(H.s2 p hp).1 e),fun z hz=>⟨HB.Rds.but (H.ri z hz).1 hb (fun b off e hx=>(H.s4 b ⟨z,hz,off,e⟩).2.2 (.inl hx)),(H.ri z hz).2⟩,H.tr.but hb (fun p hp e=>(H.s3 p hp).1 e),H.s1,H.s2,H.s3,fun k hk=>⟨(H.s4 k hk).1,by simpa using(H.s4 k hk).2.1,(H.s4 k hk).2.2⟩⟩,hb.mono (fun k _ e=>.inl e),fun k _ h=>h,fun k _ h=>h⟩
theorem Eg.tick(H:Eg base s sA sn sk x E w)(T':Int):∃ t',Eg base s sA sn sk x {E with T:=T',tag:=t'} (w.setCell ⟨E.wb,16,none⟩ (O J T'))/\Below base w (w.setCell ⟨E.wb,16,none⟩ (O J T')):=
 ⟨_,H.world (H.wd.setT T')⟩
end
def dz(base:Nat)(s:Sc)(sA:Option Addr)(sn sk x:Nat)(E:Egs)(w:World)(i:Nat)(b a:Int)(c:Ca)(e:Ending)(w':World):Prop:=
 e=.returned (.tuple #[])/\Below base w w'/\((b<=a/\Eg base s sA sn sk x E w')\/(a<b/\∃(bu':Bu)(l':List Lg)(t':Nat->Nat),bu'.t=b/\Eg base s sA sn sk x {E with L:=E.L.set i {c with c:=aft c.c (b-a)},at_:=E.at_.set i b,Y:=E.Y.set i bu',G:=E.G.set i l',tag:=t'} w'))
theorem Z9(base:Nat)(s:Sc)(sA:Option Addr)(sn sk x:Nat)(E:Egs)(w:World)(i:Nat)(b a:Int)(c:Ca)(bu:Bu)(H:Eg base s sA sn sk x E w)(hi:E.L[i]?=some c)(ha:E.at_[i]?=some a)(hy:E.Y[i]?=some bu)(hbu:bu.t=a)(hw:CarW s c.c c.l)(hs:s.ok)(a0:0<=a)(a1:a<=1000000)(b0:0<=b)(b1:b<=1000000)(hab:b<=a):
  Calls prog 141 #[.pointer (some ⟨x,0,none⟩),O J (i:Int),O J b] w (dz base s sA sn sk x E w i b a c):=by
 have hia:i<E.at_.length:=(List.getElem?_eq_some_iff.1 ha).1;obtain⟨⟨-,-,x4,-,-⟩,-,-⟩:=H.cells;obtain⟨a',ha',ac,af⟩:=H.ao.int_at rfl hia;obtain rfl:a'=a:=Option.some.inj (ha'.symm.trans ha);have HH:=ze H;have HAB:=ze hab;have i0:(0:Int)<=(i:Int):=by omega
 have i1:(i:Int)<(E.at_.length:Int):=by omega
 have k0:decide (b-a'<=0)=true:=by simp;omega
 clear H hi ha hy hbu hw hs ha' hab;go_enter func141,ntmps141;go_wp2_with fail;go_end0;exact⟨rfl,fh,.inl ⟨HAB.o,HH.o⟩⟩
theorem yZ(base:Nat)(s:Sc)(sA:Option Addr)(sn sk x:Nat)(E:Egs)(w:World)(i:Nat)(b a:Int)(c:Ca)(bu:Bu)(H:Eg base s sA sn sk x E w)(hi:E.L[i]?=some c)(ha:E.at_[i]?=some a)(hy:E.Y[i]?=some bu)(hbu:bu.t=a)(hw:CarW s c.c c.l)(hs:s.ok)(a0:0<=a)(a1:a<=1000000)(b0:0<=b)(b1:b<=1000000)(hab:a<b)(hT:c.c.mode≠0->∃ t,CarT s.gap c.c a t/\b<=t):
  Calls prog 141 #[.pointer (some ⟨x,0,none⟩),O J (i:Int),O J b] w (dz base s sA sn sk x E w i b a c):=by
 have hia:i<E.at_.length:=(List.getElem?_eq_some_iff.1 ha).1;have hil:i<E.L.length:=(List.getElem?_eq_some_iff.1 hi).1;have hiy:i<E.yn:=by rw[<-H.yl.1];exact(List.getElem?_eq_some_iff.1 hy).1
 have hyk:=H.yl.2;obtain⟨wb,h,S,cv,tv,L,trips,T,F,g,m,nm,HL,l,pA,pn,pc,P,ab,at_,yb,yn,yc,Y,G,evn,tag⟩:=E;obtain⟨gc,ck,hcv,-,-,hck,-,-⟩:=H.wd.cr.at_ (by omega);dsimp only at hi ha hy hia hil hiy hyk hcv hck;subst hcv;obtain⟨⟨x0,-,x4,x5,-⟩,-,-⟩:=H.cells;obtain⟨a',ha',ac,-⟩:=H.ao.int_at rfl hia;obtain rfl:a'=a:=Option.some.inj (ha'.symm.trans ha);dsimp only at x0 x4 x5 ac;have HH:=ze H;have HI:=ze hi;have HA:=ze ha;have HY:=ze hy;have HW:=ze hw;have HS:=ze hs;have HBU:=ze hbu;have HT:=ze hT;have HAB:=ze hab;have i0:(0:Int)<=(i:Int):=by omega
 have i1:(i:Int)<(at_.length:Int):=by omega
 have i2:(i:Int)<(L.length:Int):=by omega
 have i3:(i:Int)<(yn:Int):=by omega
 have k0:decide (b-a'<=0)=false:=by simp;omega
 have kk0:0<=b-a':=by omega
 have kk1:b-a'<=1000000:=by omega
 obtain⟨⟨-,-,-,-,-,-,-,-,-,-,-,-,-,-,w14,-,-⟩,-⟩:=H.wd.bx.o17;dsimp only at w14;have HCR:=ze H.wd.cr;obtain⟨r0,-⟩:=HCR.o.elem_cell zh rfl hi (show 0<6 by omega) rfl;obtain⟨r1,-⟩:=HCR.o.elem_cell zh rfl hi (show 1<6 by omega) rfl;obtain⟨r2,-⟩:=HCR.o.elem_cell zh rfl hi (show 2<6 by omega) rfl;obtain⟨r3,-⟩:=HCR.o.elem_cell zh rfl hi (show 3<6 by omega) rfl;obtain⟨r4,-⟩:=HCR.o.elem_cell zh rfl hi (show 4<6 by omega) rfl;obtain⟨r5,-⟩:=HCR.o.elem_cell zh rfl hi (show 5<6 by omega) rfl;have r0:w.cell? ⟨gc,i*6,none⟩=some (O J c.c.pos):=r0;obtain⟨c,A,rn,rk,rl⟩:=c;dsimp only at r0 r1 r2 r3 r4 r5;have p0:=hw.p0;have p1:=hw.p1;have d0:=hw.d0;have d1:=hw.d1;have l0:=hw.l0;have hgap:=hs.gap;dsimp only at p0 p1 d0 d1 l0;have q0: -3000<=c.pos:=by omega
 have q1:c.pos<=3000:=by omega
 have q2: -3000<=c.left:=by omega
 have q3:c.left<=3000:=by omega
 clear H hi ha hy hbu hw hs ha' hab hT p0 p1 l0 hgap;go_enter func141,ntmps141;go_upto_region 3 with(fail);refine zq (w:=w) (fun V=>Bx V w.heap.size (c.lv (.slice A rn rk))/\w.heap.size<V.heap.size) ⟨Bx.new w (c.lv (.slice A rn rk)) 265,by simp⟩ ((Below.refl w.heap.size w).alloc fi _) ?_;rintro V ⟨hq,hzV⟩ hbV;have HQ:=ze hq;have HBV:=ze hbV;clear hq hbV r0 r1 r2 r3 r4 r5 x0 x4 x5 ac w14;obtain⟨⟨c0,c1,c2,c3,c4,c5⟩,-⟩:=HQ.o.o6
 go_cut [8] (fun v wx=>∃(q8:Nat)(d:Bool),v=.pointer (some ⟨q8,0,none⟩)/\V.heap.size<=q8/\q8<wx.heap.size/\Bx wx q8 [O J c.pos,O J 0,O J (b-a'),.bool d]/\Below V.heap.size V wx)
 case first=>
  have HDR:=ze (fun W=>Kc c A rn rk W);have MK:=ze (fun W(hb:Below V.heap.size V W)=>(show W.cell? ⟨w.heap.size,0,none⟩=some (O J c.pos)/\W.cell? ⟨w.heap.size,1,none⟩=some (O J c.dir)/\W.cell? ⟨w.heap.size,2,none⟩=some (O J c.mode)/\W.cell? ⟨w.heap.size,3,none⟩=some (O J c.left)/\W.cell? ⟨w.heap.size,4,none⟩=some (.bool c.wt)/\W.cell? ⟨w.heap.size,5,none⟩=some (.slice A rn rk)/\Below V.heap.size V W from⟨((HQ.o.below hb hzV) 0 _ rfl).1,((HQ.o.below hb hzV) 1 _ rfl).1,((HQ.o.below hb hzV) 2 _ rfl).1,((HQ.o.below hb hzV) 3 _ rfl).1,((HQ.o.below hb hzV) 4 _ rfl).1,((HQ.o.below hb hzV) 5 _ rfl).1,hb⟩))
  go_region_held3 (fun W=>W.cell? ⟨w.heap.size,0,none⟩=some (O J c.pos)/\W.cell? ⟨w.heap.size,1,none⟩=some (O J c.dir)/\W.cell? ⟨w.heap.size,2,none⟩=some (O J c.mode)/\W.cell? ⟨w.heap.size,3,none⟩=some (O J c.left)/\W.cell? ⟨w.heap.size,4,none⟩=some (.bool c.wt)/\W.cell? ⟨w.heap.size,5,none⟩=some (.slice A rn rk)/\Below V.heap.size V W)
   (((refine MK.o _ ?_);(first|(with_reducible exact HBN.o)|(with_reducible exact fh.drew)|(go_grown;done)|(go_grown;with_reducible exact HBN.o))))
   (first
    |(go_at_call 145;go_split_ands;(with_reducible refine(HDR.o _).mono ?_);rintro r wX ⟨⟨d,rfl⟩,hbX⟩;(try((first|(have HY:=ze (HY.o.below hbX HYL.o))|(have HY:=ze (Bx.below ((show Bx (V.drew.alloc (.cells ([O J 0,O J 0,O J 0,.bool false]:List Value).toArray 272)) V.heap.size [O J 0,O J 0,O J 0,.bool false]from Bx.new V.drew [O J 0,O J 0,O J 0,.bool false] 272)) hbX (by simp))));(try clear HYL);have HYL:=ze (HY.o.lt (by simp));(try clear z0 z1 z2 z3 k0 k1 k2 k3);obtain⟨⟨z0,z1,z2,z3⟩,k0,k1,k2,k3⟩:=HY.o.o4));have HBM:=ze ((‹Below V.heap.size V _›).trans (hbX.mono (‹Below V.heap.size V _›).size));(try clear HBN);have HBN:=ze HBM.o;(try clear hzN);have hzN:=HBN.o.size;clear HBM hbX))
  ·go_wp2_with fail
   go_meet
   exact⟨wX.heap.size,d,rfl,HBN.o.size,by simp,Bx.new wX [O J c.pos,O J 0,O J (b-a'),.bool d] 272,HBN.o.alloc hzN _⟩
  ·go_wp2_with fail
   go_meet
   exact⟨_,d,rfl,fi,by simpa using HYL.o,(((HY.o.set 0 (O J c.pos)).set 1 (O J 0)).set 2 (O J (b-a'))).set 3 (.bool d),(((HBN.o.setCell fi _).setCell fi _).setCell fi _).setCell fi _⟩
 case rest=>
 obtain⟨q8,d,rfl,hq8,hq8z,hrn,hbw⟩:=hcut;obtain⟨V2,hV2⟩:∃ V2,V2=wc:=⟨_,rfl⟩;subst hV2;have HRN:=ze hrn;have HBW:=ze hbw;have HQ2:=ze (HQ.o.below hbw hzV);have hz2:=hbw.size;clear hrn hbw c0 c1 c2 c3 c4 c5;obtain⟨⟨c0,c1,c2,-,-,-⟩,-⟩:=HQ2.o.o6;obtain⟨⟨u0,u1,-,-⟩,y0,y1,-,-⟩:=HRN.o.o4
 go_upto_if 38 with(fail)
 go_cut [] (fun wx=>∃ P1 D1:Int,-100000<=P1/\P1<=100000/\-1<=D1/\D1<=1/\Bx wx q8 [O J P1,O J D1,O J (b-a'),.bool d]/\Below V.heap.size V wx/\wx.heap.size=V2.heap.size)
 case first=>
  by_cases hm:c.mode=1
  ·have m1:(c.mode==1)=true:=by simpa using hm
   clear hm;go_wp2_with fail;go_region
   all_goals(
    go_wp2_with fail
    go_meet
    exact⟨c.pos+c.dir,c.dir,by omega,by omega,by omega,by omega,(HRN.o.set 0 (O J (c.pos+c.dir))).set 1 (O J c.dir),((HBW.o.setCell (p:=⟨q8,0,none⟩) hq8 _).setCell (p:=⟨q8,1,none⟩) hq8 _).drew,by simp⟩)
  ·have m1:(c.mode==1)=false:=by simpa using hm
   clear hm;go_wp2_with fail
   go_meet
   exact⟨c.pos,0,by omega,by omega,by omega,by omega,HRN.o,HBW.o,rfl⟩
 case rest=>
 obtain⟨P1,D1,P0,P2,D0,D2,hrn,hbw,hzz⟩:=hcut;obtain⟨V3,hV3⟩:∃ V3,V3=wc:=⟨_,rfl⟩;subst hV3;have hz3:q8<V3.heap.size:=by omega
 have hq3:w.heap.size<V3.heap.size:=by omega
 have HB3:=ze (show Below w.heap.size w V3 from HBV.o.trans (hbw.mono (by omega)));have HQ3:=ze (HQ.o.below hbw hzV);have HE3:=ze (HH.o.below HB3.o);obtain⟨lg,hlg,hway⟩:=HE3.o.wy i bu HY.o;have HLG:=ze hlg;have HWAY:=ze hway;have HADD:=ze (fun W(hb:Below V3.heap.size V3 W)=>Jt base yb yn yc Y i bu lg P1 D1 (b-a') d W (hway.below hb) P0 P2 D0 D2 kk0 kk1 (by have:=HBU.o;omega));have HRN3:=ze hrn;clear hrn hbw hzz HRN HBW HQ2 c0 c1 c2 u0 u1 y0 y1 hlg hway;obtain⟨⟨u0,u1,u2,u3⟩,-⟩:=HRN3.o.o4;obtain⟨⟨x0,-,x4,x5,-⟩,-,-⟩:=HE3.o.cells;dsimp only at x0 x4 x5;clear x0 x4;go_upto_region 6 with(fail)
 go_cut [] (fun wx=>∃(b':Bu)(l':List Lg),WayP V3 base yb yn yc Y i bu (b-a') wx b' l')
 case first=>
  go_region_with (go_at_call 144;refine(HADD.o _ fh.drew).mono ?_;rintro r w5 ⟨rfl,b',l',hP⟩;have HP:=ze hP;clear hP u0 u1 u2 u3 x5)
  all_goals(
   go_wp2_with fail
   go_meet
   exact⟨b',l',WayP.from_ fh.drew HP.o⟩)
 case rest=>
 obtain⟨b',l',hP⟩:=hcut;obtain⟨V4,hV4⟩:∃ V4,V4=wc:=⟨_,rfl⟩;subst hV4;clear u0 u1 u2 u3 x5 HRN3 HADD;have HP:=ze hP;have HE4:=ze (HE3.o.way HY.o hP);have hz4:=hP.but.size;have HQ4:=ze (HQ3.o.but hP.but hq3 (fun hx=>by
  rcases hx with hx|hx
  ·have:=(HH.o.tg.lo yb (by have:=HH.o.tg.t4;dsimp only at this⊢;omega)).2;omega
  ·have:=(HH.o.tg.lo w.heap.size (by have:=HH.o.tg.t5 i bu HY.o _ hx;dsimp only at this⊢;omega)).2;omega))
 have HAF:=ze (fun W=>KM c A rn rk (b-a') W (by omega) (by omega) (by rcases vp d0 d1 with e|e|e<;>rw[e]<;>omega) (by rcases vp d0 d1 with e|e|e<;>rw[e]<;>omega) (by omega) (by omega));clear hP HE3 HQ3 HLG HWAY;have HC4:=ze (fun W(hb:Below V4.heap.size V4 W)=>HE4.o.1.wd.cr.below hb);have hqV4:w.heap.size<V4.heap.size:=by omega
 obtain⟨⟨x0,-,x4,-,-⟩,-,-⟩:=HE4.o.1.cells;obtain⟨⟨-,-,-,-,-,-,-,-,-,-,-,-,-,-,w14,-,-⟩,-⟩:=HE4.o.1.wd.bx.o17;dsimp only at x0 x4 w14;obtain⟨⟨c0,c1,c2,c3,c4,c5⟩,-⟩:=HQ4.o.o6;clear x4;go_upto_region 7 with(fail)
 go_cut [] (fun wx=>∃ V5,Below V4.heap.size V4 V5/\wx=Xt V5 gc (i*6) ⟨aft c (b-a'),A,rn,rk,rl⟩)
 case first=>
  go_region_with (go_at_call 184;refine(HAF.o _).mono ?_;rintro r w6 ⟨rfl,hb6⟩;have HB6:=ze (show Below V4.heap.size V4 w6 from(Below.refl V4.heap.size V4).drew.trans hb6);clear hb6;have x0b:=zf HB6.o x0;have w14b:=zf HB6.o w14;have HC6:=ze (HC4.o w6 HB6.o);obtain⟨r0,f0⟩:=HC6.o.elem_cell zh rfl HI.o (show 0<6 by omega) rfl;obtain⟨r1,f1⟩:=HC6.o.elem_cell zh rfl HI.o (show 1<6 by omega) rfl;obtain⟨r2,f2⟩:=HC6.o.elem_cell zh rfl HI.o (show 2<6 by omega) rfl;obtain⟨r3,f3⟩:=HC6.o.elem_cell zh rfl HI.o (show 3<6 by omega) rfl;obtain⟨r4,f4⟩:=HC6.o.elem_cell zh rfl HI.o (show 4<6 by omega) rfl;obtain⟨r5,f5⟩:=HC6.o.elem_cell zh rfl HI.o (show 5<6 by omega) rfl;have r0:w6.cell? ⟨gc,i*6,none⟩=some (O J c.pos):=r0;have f0:w6.frozen? ⟨gc,i*6,none⟩=false:=f0)
  all_goals(
   go_wp2_with fail
   go_meet
   exact⟨w6,HB6.o,rfl⟩)
 case rest=>
 obtain⟨V5,hb5,hw6⟩:=hcut;have HE5:=ze (HE4.o.1.below hb5);have hE6:=HE5.o.world (ky (c':=aft c (b-a')) HE5.o.wd rfl HI.o fh);have HB5:=ze hb5;clear hb5 x0 w14 c0 c1 c2 c3 c4 c5 HC4 HAF;obtain⟨V6,hV6⟩:∃ V6,V6=wc:=⟨_,rfl⟩;subst hV6;rw[<-hw6]at hE6;have HE6:=ze hE6;clear hE6 hw6;obtain⟨⟨-,-,x4,-,-⟩,-,-⟩:=HE6.o.1.cells;obtain⟨a6,-,ac,af⟩:=HE6.o.1.ao.int_at rfl hia;dsimp only at x4 ac af;go_wp2_with fail;go_end0;have h9:=HE6.o.1.through i b;have hbs:=HH.o.bs;have hbb:=HB5.o;refine⟨rfl,((((HB3.o.mono hbs).trans HE4.o.2).trans (HB5.o.mono (HE4.o.1.bs))).trans HE6.o.2).trans h9.2,.inr ⟨HAB.o,b',l',_,?_,h9.1⟩⟩;have h7:=HP.o.t;have h8:=HBU.o;omega
end
section
open Go.RowKit HB Go.Maps CalP
theorem XA(base:Nat)(s:Sc)(hs:s.ok)(sA:Option Addr)(sn sk wb h:Nat)(w:World)(S:HS)(g n ck:Nat)(tv:Value)(L:List Ca)(trips:List Tr)(T:Int)(i:Nat)(x:Ca)
  (H:Wd base s sA sn sk wb h w S (.slice (some ⟨g,0,none⟩) n ck) tv L trips T)(hn:L.length=n)(hnk:n<=ck)(hn1:n<=1000)(hi:L[i]?=some x)(hok:x.ok s.gap)(hm:x.c.mode=4)(hl0:1<=x.c.left)(hl1:x.c.left<=64):
  Calls prog 143 #[.pointer (some ⟨wb,0,none⟩),O J (i:Int)] w (Uw base s sA sn sk wb h w S (.slice (some ⟨g,0,none⟩) n ck) tv L trips T i x):=by
 have HWD:=ze H;have HI:=ze hi;have HN:=ze hn;have hil:i<n:=by have:=(List.getElem?_eq_some_iff.1 hi).1;omega
 have HRI:=ze (H.ri x (List.mem_of_getElem? hi)).1;have HBX:=ze H.bx;have hwb:=H.bx.lt (by simp);have hgl:=(H.cr.lt (k:=g) rfl).2;have p0:=hok.p0;have p1:=hok.p1;have d0:=hok.d0;have d1:=hok.d1;have n1:=hok.n1;have b0:=H.cr.elem_cell zh hn hi (show 0<6 by omega) rfl;have b1:=(H.cr.elem_cell zh hn hi (show 1<6 by omega) rfl).1;have b2:=(H.cr.elem_cell zh hn hi (show 2<6 by omega) rfl).1;have b3:=(H.cr.elem_cell zh hn hi (show 3<6 by omega) rfl).1;have b4:=(H.cr.elem_cell zh hn hi (show 4<6 by omega) rfl).1;have b5:=(H.cr.elem_cell zh hn hi (show 5<6 by omega) rfl).1;have b0:w.cell? ⟨g,i*6,none⟩=some (O J x.c.pos):=b0.1;have i0:(0:Int)<=(i:Int):=by omega
 have i1:(i:Int)<(n:Int):=by omega
 obtain⟨c,A,rn,rk,l⟩:=x;obtain⟨⟨x0,x1,x2,x3,x4,x5,x6,x7,x8,x9,x10,x11,x12,x13,x14,x15,x16⟩,-⟩:=H.bx.o17;clear x0 x1 x2 x3 x4 x5 x6 x7 x8 x9 x10 x11 x12 x13 x15 x16;have hil':i<=n:=by omega
 have hcg:=hgl;simp only at hm hl0 hl1 p0 p1 d0 d1 n1 b0 b1 b2 b3 b4 b5;clear H hi hn hok;have m0:(c.mode==0)=false:=by(simp;omega)
 have m1:(c.mode==1)=false:=by(simp;omega)
 have m4:(c.mode==4)=true:=by simpa using hm
 have HM:=ze hm;clear hm;go_enter func143,ntmps143;go_upto_region 2 with(fail);refine zq (w:=w) (fun V=>Bx V w.heap.size (c.lv (.slice A rn rk))/\w.heap.size<V.heap.size) ⟨Bx.new w (c.lv (.slice A rn rk)) 265,by simp⟩ ((Below.refl w.heap.size w).alloc fi _) ?_;rintro V ⟨hq,hzV⟩ hbV;have HQ:=ze hq;have HBV:=ze hbV;obtain⟨⟨c0,c1,c2,c3,c4,c5⟩,e0,e1,e2,e3,e4,e5⟩:=HQ.o.o6;clear hq hbV b0 b1 b2 b3 b4 b5 x14;clear e0 e1 e4 e5;by_cases hl:c.left=1
 ·have l1:(c.left-1==0)=true:=by simp;omega
  have HL:=ze hl;have HL0:=ze (show c.left-1=0 by omega);clear hl;go_wp2_with fail;refine qj (w:=w) (W:=(V.setCell ⟨w.heap.size,3,none⟩ (O J (c.left-1))).setCell ⟨w.heap.size,2,none⟩ (O J 0)) (fun V3=>Bx V3 w.heap.size (Cr.lv ⟨c.pos,c.dir,0,c.left-1,c.wt⟩ (.slice A rn rk))/\w.heap.size<V3.heap.size) ⟨(HQ.o.set 3 _).set 2 _,by simpa using hzV⟩ ((HBV.o.setCell (p:=⟨w.heap.size,3,none⟩) fi _).setCell (p:=⟨w.heap.size,2,none⟩) fi _) ?_;clear c0 c1 c2 c3 c4 c5 e2 e3;rintro V3 ⟨hq3,hz3⟩ hb3;have HB3:=ze hb3;have HF:=ze (ky (c':=⟨c.pos,c.dir,0,c.left-1,c.wt⟩) HWD.o HN.o HI.o hb3);obtain⟨⟨y0,y1,y2,y3,y4,y5⟩,-⟩:=hq3.o6;obtain⟨⟨x0,x1,x2,x3,x4,x5,x6,x7,x8,x9,x10,x11,x12,x13,x14,x15,x16⟩,-⟩:=(HBX.o.below hb3 hwb).o17;have HCR:=ze (HWD.o.cr.below hb3);obtain⟨r0,f0⟩:=HCR.o.elem_cell zh HN.o HI.o (show 0<6 by omega) rfl;obtain⟨r1,f1⟩:=HCR.o.elem_cell zh HN.o HI.o (show 1<6 by omega) rfl;obtain⟨r2,f2⟩:=HCR.o.elem_cell zh HN.o HI.o (show 2<6 by omega) rfl;obtain⟨r3,f3⟩:=HCR.o.elem_cell zh HN.o HI.o (show 3<6 by omega) rfl;obtain⟨r4,f4⟩:=HCR.o.elem_cell zh HN.o HI.o (show 4<6 by omega) rfl;obtain⟨r5,f5⟩:=HCR.o.elem_cell zh HN.o HI.o (show 5<6 by omega) rfl;have r0:V3.cell? ⟨g,i*6,none⟩=some (O J c.pos):=r0;have f0:V3.frozen? ⟨g,i*6,none⟩=false:=f0;clear x0 x1 x2 x3 x4 x5 x6 x7 x8 x9 x10 x11 x12 x13 x15 x16 hq3 hb3;go_wp2_with fail;go_region
  all_goals(
   go_wp2_with fail;go_ret;exact⟨false,⟨⟨c.pos,c.dir,0,c.left-1,c.wt⟩,A,rn,rk,l⟩,S,trips,rfl,HF.o.below fh.drew,by omega,by omega,.inr (.inl ⟨HM.o,by rw[if_pos HL.o,HL0.o],rfl,rfl,rfl⟩)⟩)
 ·have l1:(c.left-1==0)=false:=by simp;omega
  have HL:=ze hl;clear hl;go_wp2_with fail;refine qj (w:=w) (W:=V.setCell ⟨w.heap.size,3,none⟩ (O J (c.left-1))) (fun V3=>Bx V3 w.heap.size (Cr.lv ⟨c.pos,c.dir,c.mode,c.left-1,c.wt⟩ (.slice A rn rk))/\w.heap.size<V3.heap.size) ⟨HQ.o.set 3 _,by simpa using hzV⟩ (HBV.o.setCell (p:=⟨w.heap.size,3,none⟩) fi _) ?_;clear c0 c1 c2 c3 c4 c5 e2 e3;rintro V3 ⟨hq3,hz3⟩ hb3;have HB3:=ze hb3;have HF:=ze (ky (c':=⟨c.pos,c.dir,c.mode,c.left-1,c.wt⟩) HWD.o HN.o HI.o hb3);obtain⟨⟨y0,y1,y2,y3,y4,y5⟩,-⟩:=hq3.o6;obtain⟨⟨x0,x1,x2,x3,x4,x5,x6,x7,x8,x9,x10,x11,x12,x13,x14,x15,x16⟩,-⟩:=(HBX.o.below hb3 hwb).o17;have HCR:=ze (HWD.o.cr.below hb3);obtain⟨r0,f0⟩:=HCR.o.elem_cell zh HN.o HI.o (show 0<6 by omega) rfl;obtain⟨r1,f1⟩:=HCR.o.elem_cell zh HN.o HI.o (show 1<6 by omega) rfl;obtain⟨r2,f2⟩:=HCR.o.elem_cell zh HN.o HI.o (show 2<6 by omega) rfl;obtain⟨r3,f3⟩:=HCR.o.elem_cell zh HN.o HI.o (show 3<6 by omega) rfl;obtain⟨r4,f4⟩:=HCR.o.elem_cell zh HN.o HI.o (show 4<6 by omega) rfl;obtain⟨r5,f5⟩:=HCR.o.elem_cell zh HN.o HI.o (show 5<6 by omega) rfl;have r0:V3.cell? ⟨g,i*6,none⟩=some (O J c.pos):=r0;have f0:V3.frozen? ⟨g,i*6,none⟩=false:=f0;clear x0 x1 x2 x3 x4 x5 x6 x7 x8 x9 x10 x11 x12 x13 x15 x16 hq3 hb3;go_wp2_with fail;go_region
  all_goals(
   go_wp2_with fail;go_ret;exact⟨false,⟨⟨c.pos,c.dir,c.mode,c.left-1,c.wt⟩,A,rn,rk,l⟩,S,trips,rfl,HF.o.below fh.drew,by omega,by omega,.inr (.inl ⟨HM.o,by rw[if_neg HL.o],rfl,rfl,rfl⟩)⟩)
theorem XB(base:Nat)(s:Sc)(hs:s.ok)(sA:Option Addr)(sn sk wb h:Nat)(w:World)(S:HS)(g n ck:Nat)(tv:Value)(L:List Ca)(trips:List Tr)(T:Int)(i:Nat)(x:Ca)
  (H:Wd base s sA sn sk wb h w S (.slice (some ⟨g,0,none⟩) n ck) tv L trips T)(hn:L.length=n)(hnk:n<=ck)(hn1:n<=1000)(hi:L[i]?=some x)(hok:x.ok s.gap)(hm:x.c.mode=2\/x.c.mode=3)(hl0:2<=x.c.left)(hl1:x.c.left<=64):
  Calls prog 143 #[.pointer (some ⟨wb,0,none⟩),O J (i:Int)] w (Uw base s sA sn sk wb h w S (.slice (some ⟨g,0,none⟩) n ck) tv L trips T i x):=by
 have HWD:=ze H;have HI:=ze hi;have HN:=ze hn;have hil:i<n:=by have:=(List.getElem?_eq_some_iff.1 hi).1;omega
 have HRI:=ze (H.ri x (List.mem_of_getElem? hi)).1;have HBX:=ze H.bx;have hwb:=H.bx.lt (by simp);have hgl:=(H.cr.lt (k:=g) rfl).2;have p0:=hok.p0;have p1:=hok.p1;have d0:=hok.d0;have d1:=hok.d1;have n1:=hok.n1;have b0:=H.cr.elem_cell zh hn hi (show 0<6 by omega) rfl;have b1:=(H.cr.elem_cell zh hn hi (show 1<6 by omega) rfl).1;have b2:=(H.cr.elem_cell zh hn hi (show 2<6 by omega) rfl).1;have b3:=(H.cr.elem_cell zh hn hi (show 3<6 by omega) rfl).1;have b4:=(H.cr.elem_cell zh hn hi (show 4<6 by omega) rfl).1;have b5:=(H.cr.elem_cell zh hn hi (show 5<6 by omega) rfl).1;have b0:w.cell? ⟨g,i*6,none⟩=some (O J x.c.pos):=b0.1;have i0:(0:Int)<=(i:Int):=by omega
 have i1:(i:Int)<(n:Int):=by omega
 obtain⟨c,A,rn,rk,l⟩:=x;obtain⟨⟨x0,x1,x2,x3,x4,x5,x6,x7,x8,x9,x10,x11,x12,x13,x14,x15,x16⟩,-⟩:=H.bx.o17;clear x0 x1 x2 x3 x4 x5 x6 x7 x8 x9 x10 x11 x12 x13 x15 x16;have hil':i<=n:=by omega
 have hcg:=hgl;simp only at hm hl0 hl1 p0 p1 d0 d1 n1 b0 b1 b2 b3 b4 b5;clear H hi hn hok;have m0:(c.mode==0)=false:=by(simp;omega)
 have m1:(c.mode==1)=false:=by(simp;omega)
 have m4:(c.mode==4)=false:=by(simp;omega)
 have HM:=ze hm;clear hm;go_enter func143,ntmps143;go_upto_region 2 with(fail);refine zq (w:=w) (fun V=>Bx V w.heap.size (c.lv (.slice A rn rk))/\w.heap.size<V.heap.size) ⟨Bx.new w (c.lv (.slice A rn rk)) 265,by simp⟩ ((Below.refl w.heap.size w).alloc fi _) ?_;rintro V ⟨hq,hzV⟩ hbV;have HQ:=ze hq;have HBV:=ze hbV;obtain⟨⟨c0,c1,c2,c3,c4,c5⟩,e0,e1,e2,e3,e4,e5⟩:=HQ.o.o6;clear hq hbV b0 b1 b2 b3 b4 b5 x14;clear e0 e1 e2 e4 e5;have l1:(c.left-1==0)=false:=by simp;omega
 go_wp2_with fail;refine qj (w:=w) (W:=V.setCell ⟨w.heap.size,3,none⟩ (O J (c.left-1))) (fun V3=>Bx V3 w.heap.size (Cr.lv ⟨c.pos,c.dir,c.mode,c.left-1,c.wt⟩ (.slice A rn rk))/\w.heap.size<V3.heap.size) ⟨HQ.o.set 3 _,by simpa using hzV⟩ (HBV.o.setCell (p:=⟨w.heap.size,3,none⟩) fi _) ?_;clear c0 c1 c2 c3 c4 c5 e3;rintro V3 ⟨hq3,hz3⟩ hb3;have HB3:=ze hb3;have HF:=ze (ky (c':=⟨c.pos,c.dir,c.mode,c.left-1,c.wt⟩) HWD.o HN.o HI.o hb3);obtain⟨⟨y0,y1,y2,y3,y4,y5⟩,-⟩:=hq3.o6;obtain⟨⟨x0,x1,x2,x3,x4,x5,x6,x7,x8,x9,x10,x11,x12,x13,x14,x15,x16⟩,-⟩:=(HBX.o.below hb3 hwb).o17;have HCR:=ze (HWD.o.cr.below hb3);obtain⟨r0,f0⟩:=HCR.o.elem_cell zh HN.o HI.o (show 0<6 by omega) rfl;obtain⟨r1,f1⟩:=HCR.o.elem_cell zh HN.o HI.o (show 1<6 by omega) rfl;obtain⟨r2,f2⟩:=HCR.o.elem_cell zh HN.o HI.o (show 2<6 by omega) rfl;obtain⟨r3,f3⟩:=HCR.o.elem_cell zh HN.o HI.o (show 3<6 by omega) rfl;obtain⟨r4,f4⟩:=HCR.o.elem_cell zh HN.o HI.o (show 4<6 by omega) rfl;obtain⟨r5,f5⟩:=HCR.o.elem_cell zh HN.o HI.o (show 5<6 by omega) rfl;have r0:V3.cell? ⟨g,i*6,none⟩=some (O J c.pos):=r0;have f0:V3.frozen? ⟨g,i*6,none⟩=false:=f0;clear x0 x1 x2 x3 x4 x5 x6 x7 x8 x9 x10 x11 x12 x13 x15 x16 hq3 hb3;go_wp2_with fail;go_region
 all_goals(
  go_wp2_with fail;go_ret;exact⟨false,⟨⟨c.pos,c.dir,c.mode,c.left-1,c.wt⟩,A,rn,rk,l⟩,S,trips,rfl,HF.o.below fh.drew,by omega,by omega,.inr (.inr (.inl ⟨HM.o,by show c.left≠1;omega,rfl,rfl,rfl,rfl⟩))⟩)
end
section
open List renaming setIfInBounds_toArray->s0q,set_cons_zero->s1q,set_cons_succ->s2q
open Go.RowKit HB Go.Maps CalP
theorem yI(base:Nat)(s:Sc)(hs:s.ok)(sA:Option Addr)(sn sk wb h:Nat)(w:World)(S:HS)(g n ck:Nat)(tv:Value)(L:List Ca)(trips:List Tr)(T:Int)(i:Nat)(x:Ca)
  (H:Wd base s sA sn sk wb h w S (.slice (some ⟨g,0,none⟩) n ck) tv L trips T)(hn:L.length=n)(hnk:n<=ck)(hn1:n<=1000)(hi:L[i]?=some x)(hok:x.ok s.gap)(hm:x.c.mode=0\/x.c.mode=1):
  Calls prog 143 #[.pointer (some ⟨wb,0,none⟩),O J (i:Int)] w (Uw base s sA sn sk wb h w S (.slice (some ⟨g,0,none⟩) n ck) tv L trips T i x):=by
 have HWD:=ze H;have HI:=ze hi;have HN:=ze hn;have hil:i<n:=by have:=(List.getElem?_eq_some_iff.1 hi).1;omega
 have HRI:=ze (H.ri x (List.mem_of_getElem? hi)).1;have HBX:=ze H.bx;have hwb:=H.bx.lt (by simp);have hgl:=(H.cr.lt (k:=g) rfl).2;have p0:=hok.p0;have p1:=hok.p1;have d0:=hok.d0;have d1:=hok.d1;have n1:=hok.n1;have b0:=H.cr.elem_cell zh hn hi (show 0<6 by omega) rfl;have b1:=(H.cr.elem_cell zh hn hi (show 1<6 by omega) rfl).1;have b2:=(H.cr.elem_cell zh hn hi (show 2<6 by omega) rfl).1;have b3:=(H.cr.elem_cell zh hn hi (show 3<6 by omega) rfl).1;have b4:=(H.cr.elem_cell zh hn hi (show 4<6 by omega) rfl).1;have b5:=(H.cr.elem_cell zh hn hi (show 5<6 by omega) rfl).1;have b0:w.cell? ⟨g,i*6,none⟩=some (O J x.c.pos):=b0.1;have i0:(0:Int)<=(i:Int):=by omega
 have i1:(i:Int)<(n:Int):=by omega
 obtain⟨c,A,rn,rk,l⟩:=x;obtain⟨⟨x0,x1,x2,x3,x4,x5,x6,x7,x8,x9,x10,x11,x12,x13,x14,x15,x16⟩,-⟩:=H.bx.o17;clear x0 x1 x2 x3 x4 x5 x6 x7 x8 x9 x10 x11 x12 x13 x15 x16;have hil':i<=n:=by omega
 have hcg:=hgl;simp only at hm p0 p1 d0 d1 n1 b0 b1 b2 b3 b4 b5;clear H hi hn hok;have HM:=ze hm;rcases hm with hm|hm
 all_goals
  first|(have m0:(c.mode==0)=true:=Y7 hm)|(have m0:(c.mode==0)=false:=Ke (by omega))
  first|(have m1:(c.mode==1)=true:=Y7 hm)|(have m1:(c.mode==1)=false:=Ke (by omega))
  have m4:(c.mode==4)=false:=Ke (by omega);clear hm;have HLD:=ze (fun d W(hb:Below w.heap.size w W)=>qv h S (i:Int) d W (HWD.o.hl.below hb));have HMV:=ze (fun m0 m1 u0 u1 W(hb:Below w.heap.size w W)=>Us s hs sA sn sk c A rn rk w.heap.size l m0 m1 u0 u1 W (HRI.o.below hb) hb.size (by omega) p0 p1 d0 d1);go_enter func143,ntmps143;go_upto_region 2 with(fail);refine zq (w:=w) (fun V=>Bx V w.heap.size (c.lv (.slice A rn rk))/\w.heap.size<V.heap.size) ⟨Bx.new w (c.lv (.slice A rn rk)) 265,by simp⟩ ((Below.refl w.heap.size w).alloc fi _) ?_;rintro V ⟨hq,hzV⟩ hbV;have HQ:=ze hq;have HBV:=ze hbV;obtain⟨⟨c0,c1,c2,c3,c4,c5⟩,e0,e1,e2,e3,e4,e5⟩:=HQ.o.o6;clear hq hbV b0 b1 b2 b3 b4 b5 x14;have HQV:=ze HQ.o;have HQLV:=ze hzV;clear HQ;go_upto_region 10 with(fail);have SB:=ze (fun W(h:s.K sA sn sk W wb/\W.cell? ⟨wb,13,none⟩=some (.pointer (some ⟨h,0,none⟩))/\Below w.heap.size w W)=>(show Below w.heap.size w W from h.2.2));have MK:=ze (fun W(hb:Below w.heap.size w W)=>(show s.K sA sn sk W wb/\W.cell? ⟨wb,13,none⟩=some (.pointer (some ⟨h,0,none⟩))/\Below w.heap.size w W from⟨(HBX.o.below hb hwb).k13 rfl,((HBX.o.below hb hwb) 13 _ rfl).1,hb⟩));refine wp_region_held_drew (S:=(fun W=>s.K sA sn sk W wb/\W.cell? ⟨wb,13,none⟩=some (.pointer (some ⟨h,0,none⟩))/\Below w.heap.size w W)) (by kernel_rfl) ?_ (fun hHeld=>?_)
  ·exact MK.o _ HBV.o.drew
  refine qK [0,1,2,3,5,6,7,8,9,11,12,13,14,15] (by simp[zl];rfl) (by kernel_rfl) (by assumption) ?_
  iterate 14 (refine qz (v:=?_) (fun _ _ _ h=>h) (by rfl) ?_ ?_;rotate_left;(next=>((intro w hSw;(try dsimp only at hSw);go_simp);(try with_reducible rfl)));try simp only[Act.put,s0q,s1q,s2q])
  refine qL ?_;refine jj [4,10] (by kernel_rfl) ?_;refine j6 (by simp[zl];rfl) rfl (fun K hK=>?_) ?_
  ·go_simp;refine hK.out _ _ ?_ (fun hHeld=>?_)
   ·exact hHeld
   clear hK K
   try simp only[Act.put,s0q,s1q,s2q]
   refine jj [10] (by kernel_rfl) ?_;refine j6 (by simp[zl];rfl) rfl (fun K hK=>?_) AllReadyH.nil;go_simp;have hbH:=SB.o _ hHeld;go_at_call 192;(with_reducible refine(HLD.o 1 _ hbH).mono ?_);rintro r wA ⟨⟨m0,m1,rfl⟩,hbX⟩;have HBwA:=ze (hbH.trans (hbX.mono hbH.size));have HQwA:=ze (HQV.o.drew.below hbX HQLV.o);have HQLwA:=ze (HQwA.o.lt (by simp));clear hbX hbH hHeld;(try clear c0 c1 c2 c3 c4 c5 e0 e1 e2 e3 e4 e5);obtain⟨⟨c0,c1,c2,c3,c4,c5⟩,e0,e1,e2,e3,e4,e5⟩:=HQwA.o.o6
   refine hK.out _ _ ?_ (fun hHeld=>?_)
   ·exact MK.o _ HBwA.o
   clear hK K
   try simp only[Act.put,s0q,s1q,s2q]
   refine jj [16] (by kernel_rfl) ?_;refine j6 (by simp[zl];rfl) rfl (fun K hK=>?_) AllReadyH.nil;go_simp;have hbH:=SB.o _ hHeld;go_at_call 192;(with_reducible refine(HLD.o (-1) _ hbH).mono ?_);rintro r wB ⟨⟨u0,u1,rfl⟩,hbX⟩;have HBwB:=ze (hbH.trans (hbX.mono hbH.size));have HQwB:=ze (HQwA.o.below hbX HQLwA.o);have HQLwB:=ze (HQwB.o.lt (by simp));clear hbX hbH hHeld;(try clear c0 c1 c2 c3 c4 c5 e0 e1 e2 e3 e4 e5);obtain⟨⟨c0,c1,c2,c3,c4,c5⟩,e0,e1,e2,e3,e4,e5⟩:=HQwB.o.o6
   refine hK.out _ _ ?_ (fun hHeld=>?_)
   ·exact MK.o _ HBwB.o
   clear hK K
   try simp only[Act.put,s0q,s1q,s2q]
   refine jj [17] (by kernel_rfl) ?_;refine j6 (by simp[zl];rfl) rfl (fun K hK=>?_) AllReadyH.nil;go_simp;have hbH:=SB.o _ hHeld;go_at_call 191;(with_reducible refine(HMV.o m0 m1 u0 u1 _ hbH).mono ?_);rintro r wC ⟨⟨c',rfl,hms⟩,hbX⟩;have HMS:=ze hms;clear hms;have HBwC:=ze (hbH.trans (hbX.mono hbH.size));have HQwC:=ze (HQwB.o.below hbX HQLwB.o);have HQLwC:=ze (HQwC.o.lt (by simp));clear hbX hbH hHeld;(try clear c0 c1 c2 c3 c4 c5 e0 e1 e2 e3 e4 e5);obtain⟨⟨c0,c1,c2,c3,c4,c5⟩,e0,e1,e2,e3,e4,e5⟩:=HQwC.o.o6
   refine hK.out _ _ ?_ (fun hHeld=>?_)
   ·exact MK.o _ HBwC.o
   clear hK K
   try simp only[Act.put,s0q,s1q,s2q]
   refine jj [18] (by kernel_rfl) ?_;refine j6 (by simp[zl];rfl) rfl (fun K hK=>?_) AllReadyH.nil;go_simp;refine hK.out _ _ ?_ (fun hHeld=>?_)
   ·exact MK.o _ (kW HBwC.o fi _ _ _ _ _ _)
   clear hK K
   try simp only[Act.put,s0q,s1q,s2q]
   refine wpAnyH_done (by kernel_rfl) ?_ _;refine qj (w:=w) (W:=((((((wC.setCell ⟨w.heap.size,0,none⟩ (O J c'.pos)).setCell ⟨w.heap.size,1,none⟩ (O J c'.dir)).setCell ⟨w.heap.size,2,none⟩ (O J c'.mode)).setCell ⟨w.heap.size,3,none⟩ (O J c'.left)).setCell ⟨w.heap.size,4,none⟩ (.bool c'.wt)).setCell ⟨w.heap.size,5,none⟩ (.slice A rn rk))) (fun V3=>Bx V3 w.heap.size (Cr.lv c' (.slice A rn rk))/\w.heap.size<V3.heap.size) ⟨((((((HQwC.o.set 0 _).set 1 _).set 2 _).set 3 _).set 4 _).set 5 _),by simpa using HQLwC.o⟩ (kW HBwC.o fi _ _ _ _ _ _) ?_;clear c0 c1 c2 c3 c4 c5 e0 e1 e2 e3 e4 e5;rintro V3 ⟨hq3,hz3⟩ hb3;have HB3:=ze hb3;have HF:=ze (ky (c':=c') HWD.o HN.o HI.o hb3);obtain⟨⟨y0,y1,y2,y3,y4,y5⟩,-⟩:=hq3.o6;obtain⟨⟨x0,x1,x2,x3,x4,x5,x6,x7,x8,x9,x10,x11,x12,x13,x14,x15,x16⟩,-⟩:=(HBX.o.below hb3 hwb).o17;have HCR:=ze (HWD.o.cr.below hb3);obtain⟨r0,f0⟩:=HCR.o.elem_cell zh HN.o HI.o (show 0<6 by omega) rfl;obtain⟨r1,f1⟩:=HCR.o.elem_cell zh HN.o HI.o (show 1<6 by omega) rfl;obtain⟨r2,f2⟩:=HCR.o.elem_cell zh HN.o HI.o (show 2<6 by omega) rfl;obtain⟨r3,f3⟩:=HCR.o.elem_cell zh HN.o HI.o (show 3<6 by omega) rfl;obtain⟨r4,f4⟩:=HCR.o.elem_cell zh HN.o HI.o (show 4<6 by omega) rfl;obtain⟨r5,f5⟩:=HCR.o.elem_cell zh HN.o HI.o (show 5<6 by omega) rfl;have r0:V3.cell? ⟨g,i*6,none⟩=some (O J c.pos):=r0;have f0:V3.frozen? ⟨g,i*6,none⟩=false:=f0;clear x0 x1 x2 x3 x4 x5 x6 x7 x8 x9 x10 x11 x12 x13 x15 x16 hq3 hb3;go_wp2_with fail;go_region
   all_goals(
    go_wp2_with fail;go_ret;exact⟨false,⟨c',A,rn,rk,l⟩,S,trips,rfl,HF.o.below fh.drew,by omega,by omega,.inl ⟨HM.o,HMS.o,rfl,rfl,rfl⟩⟩)
  refine j6 (by simp[zl];rfl) rfl (fun K hK=>?_) AllReadyH.nil;go_simp;have hbH:=SB.o _ hHeld;go_at_call 192;(with_reducible refine(HLD.o 1 _ hbH).mono ?_);rintro r wA ⟨⟨m0,m1,rfl⟩,hbX⟩;have HBwA:=ze (hbH.trans (hbX.mono hbH.size));have HQwA:=ze (HQV.o.drew.below hbX HQLV.o);have HQLwA:=ze (HQwA.o.lt (by simp));clear hbX hbH hHeld;(try clear c0 c1 c2 c3 c4 c5 e0 e1 e2 e3 e4 e5);obtain⟨⟨c0,c1,c2,c3,c4,c5⟩,e0,e1,e2,e3,e4,e5⟩:=HQwA.o.o6
  refine hK.out _ _ ?_ (fun hHeld=>?_)
  ·exact MK.o _ HBwA.o
  clear hK K
  try simp only[Act.put,s0q,s1q,s2q]
  refine jj [4,16] (by kernel_rfl) ?_;refine j6 (by simp[zl];rfl) rfl (fun K hK=>?_) ?_
  ·go_simp;refine hK.out _ _ ?_ (fun hHeld=>?_)
   ·exact hHeld
   clear hK K
   try simp only[Act.put,s0q,s1q,s2q]
   refine jj [16] (by kernel_rfl) ?_;refine j6 (by simp[zl];rfl) rfl (fun K hK=>?_) AllReadyH.nil;go_simp;have hbH:=SB.o _ hHeld;go_at_call 192;(with_reducible refine(HLD.o (-1) _ hbH).mono ?_);rintro r wB ⟨⟨u0,u1,rfl⟩,hbX⟩;have HBwB:=ze (hbH.trans (hbX.mono hbH.size));have HQwB:=ze (HQwA.o.below hbX HQLwA.o);have HQLwB:=ze (HQwB.o.lt (by simp));clear hbX hbH hHeld;(try clear c0 c1 c2 c3 c4 c5 e0 e1 e2 e3 e4 e5);obtain⟨⟨c0,c1,c2,c3,c4,c5⟩,e0,e1,e2,e3,e4,e5⟩:=HQwB.o.o6
   refine hK.out _ _ ?_ (fun hHeld=>?_)
   ·exact MK.o _ HBwB.o
   clear hK K
   try simp only[Act.put,s0q,s1q,s2q]
   refine jj [17] (by kernel_rfl) ?_;refine j6 (by simp[zl];rfl) rfl (fun K hK=>?_) AllReadyH.nil;go_simp;have hbH:=SB.o _ hHeld;go_at_call 191;(with_reducible refine(HMV.o m0 m1 u0 u1 _ hbH).mono ?_);rintro r wC ⟨⟨c',rfl,hms⟩,hbX⟩;have HMS:=ze hms;clear hms;have HBwC:=ze (hbH.trans (hbX.mono hbH.size));have HQwC:=ze (HQwB.o.below hbX HQLwB.o);have HQLwC:=ze (HQwC.o.lt (by simp));clear hbX hbH hHeld;(try clear c0 c1 c2 c3 c4 c5 e0 e1 e2 e3 e4 e5);obtain⟨⟨c0,c1,c2,c3,c4,c5⟩,e0,e1,e2,e3,e4,e5⟩:=HQwC.o.o6
   refine hK.out _ _ ?_ (fun hHeld=>?_)
   ·exact MK.o _ HBwC.o
   clear hK K
   try simp only[Act.put,s0q,s1q,s2q]
   refine jj [18] (by kernel_rfl) ?_;refine j6 (by simp[zl];rfl) rfl (fun K hK=>?_) AllReadyH.nil;go_simp;refine hK.out _ _ ?_ (fun hHeld=>?_)
   ·exact MK.o _ (kW HBwC.o fi _ _ _ _ _ _)
   clear hK K
   try simp only[Act.put,s0q,s1q,s2q]
   refine wpAnyH_done (by kernel_rfl) ?_ _;refine qj (w:=w) (W:=((((((wC.setCell ⟨w.heap.size,0,none⟩ (O J c'.pos)).setCell ⟨w.heap.size,1,none⟩ (O J c'.dir)).setCell ⟨w.heap.size,2,none⟩ (O J c'.mode)).setCell ⟨w.heap.size,3,none⟩ (O J c'.left)).setCell ⟨w.heap.size,4,none⟩ (.bool c'.wt)).setCell ⟨w.heap.size,5,none⟩ (.slice A rn rk))) (fun V3=>Bx V3 w.heap.size (Cr.lv c' (.slice A rn rk))/\w.heap.size<V3.heap.size) ⟨((((((HQwC.o.set 0 _).set 1 _).set 2 _).set 3 _).set 4 _).set 5 _),by simpa using HQLwC.o⟩ (kW HBwC.o fi _ _ _ _ _ _) ?_;clear c0 c1 c2 c3 c4 c5 e0 e1 e2 e3 e4 e5;rintro V3 ⟨hq3,hz3⟩ hb3;have HB3:=ze hb3;have HF:=ze (ky (c':=c') HWD.o HN.o HI.o hb3);obtain⟨⟨y0,y1,y2,y3,y4,y5⟩,-⟩:=hq3.o6;obtain⟨⟨x0,x1,x2,x3,x4,x5,x6,x7,x8,x9,x10,x11,x12,x13,x14,x15,x16⟩,-⟩:=(HBX.o.below hb3 hwb).o17;have HCR:=ze (HWD.o.cr.below hb3);obtain⟨r0,f0⟩:=HCR.o.elem_cell zh HN.o HI.o (show 0<6 by omega) rfl;obtain⟨r1,f1⟩:=HCR.o.elem_cell zh HN.o HI.o (show 1<6 by omega) rfl;obtain⟨r2,f2⟩:=HCR.o.elem_cell zh HN.o HI.o (show 2<6 by omega) rfl;obtain⟨r3,f3⟩:=HCR.o.elem_cell zh HN.o HI.o (show 3<6 by omega) rfl;obtain⟨r4,f4⟩:=HCR.o.elem_cell zh HN.o HI.o (show 4<6 by omega) rfl;obtain⟨r5,f5⟩:=HCR.o.elem_cell zh HN.o HI.o (show 5<6 by omega) rfl;have r0:V3.cell? ⟨g,i*6,none⟩=some (O J c.pos):=r0;have f0:V3.frozen? ⟨g,i*6,none⟩=false:=f0;clear x0 x1 x2 x3 x4 x5 x6 x7 x8 x9 x10 x11 x12 x13 x15 x16 hq3 hb3;go_wp2_with fail;go_region
   all_goals(
    go_wp2_with fail;go_ret;exact⟨false,⟨c',A,rn,rk,l⟩,S,trips,rfl,HF.o.below fh.drew,by omega,by omega,.inl ⟨HM.o,HMS.o,rfl,rfl,rfl⟩⟩)
  refine j6 (by simp[zl];rfl) rfl (fun K hK=>?_) AllReadyH.nil;go_simp;have hbH:=SB.o _ hHeld;go_at_call 192;(with_reducible refine(HLD.o (-1) _ hbH).mono ?_);rintro r wB ⟨⟨u0,u1,rfl⟩,hbX⟩;have HBwB:=ze (hbH.trans (hbX.mono hbH.size));have HQwB:=ze (HQwA.o.below hbX HQLwA.o);have HQLwB:=ze (HQwB.o.lt (by simp));clear hbX hbH hHeld;(try clear c0 c1 c2 c3 c4 c5 e0 e1 e2 e3 e4 e5);obtain⟨⟨c0,c1,c2,c3,c4,c5⟩,e0,e1,e2,e3,e4,e5⟩:=HQwB.o.o6
  refine hK.out _ _ ?_ (fun hHeld=>?_)
  ·exact MK.o _ HBwB.o
  clear hK K
  try simp only[Act.put,s0q,s1q,s2q]
  refine jj [4] (by kernel_rfl) ?_;refine j6 (by simp[zl];rfl) rfl (fun K hK=>?_) AllReadyH.nil;go_simp;refine hK.out _ _ ?_ (fun hHeld=>?_)
  ·exact hHeld
  clear hK K
  try simp only[Act.put,s0q,s1q,s2q]
  refine jj [17] (by kernel_rfl) ?_;refine j6 (by simp[zl];rfl) rfl (fun K hK=>?_) AllReadyH.nil;go_simp;have hbH:=SB.o _ hHeld;go_at_call 191;(with_reducible refine(HMV.o m0 m1 u0 u1 _ hbH).mono ?_);rintro r wC ⟨⟨c',rfl,hms⟩,hbX⟩;have HMS:=ze hms;clear hms;have HBwC:=ze (hbH.trans (hbX.mono hbH.size));have HQwC:=ze (HQwB.o.below hbX HQLwB.o);have HQLwC:=ze (HQwC.o.lt (by simp));clear hbX hbH hHeld;(try clear c0 c1 c2 c3 c4 c5 e0 e1 e2 e3 e4 e5);obtain⟨⟨c0,c1,c2,c3,c4,c5⟩,e0,e1,e2,e3,e4,e5⟩:=HQwC.o.o6
  refine hK.out _ _ ?_ (fun hHeld=>?_)
  ·exact MK.o _ HBwC.o
  clear hK K
  try simp only[Act.put,s0q,s1q,s2q]
  refine jj [18] (by kernel_rfl) ?_;refine j6 (by simp[zl];rfl) rfl (fun K hK=>?_) AllReadyH.nil;go_simp;refine hK.out _ _ ?_ (fun hHeld=>?_)
  ·exact MK.o _ (kW HBwC.o fi _ _ _ _ _ _)
  clear hK K
  try simp only[Act.put,s0q,s1q,s2q]
  refine wpAnyH_done (by kernel_rfl) ?_ _;refine qj (w:=w) (W:=((((((wC.setCell ⟨w.heap.size,0,none⟩ (O J c'.pos)).setCell ⟨w.heap.size,1,none⟩ (O J c'.dir)).setCell ⟨w.heap.size,2,none⟩ (O J c'.mode)).setCell ⟨w.heap.size,3,none⟩ (O J c'.left)).setCell ⟨w.heap.size,4,none⟩ (.bool c'.wt)).setCell ⟨w.heap.size,5,none⟩ (.slice A rn rk))) (fun V3=>Bx V3 w.heap.size (Cr.lv c' (.slice A rn rk))/\w.heap.size<V3.heap.size) ⟨((((((HQwC.o.set 0 _).set 1 _).set 2 _).set 3 _).set 4 _).set 5 _),by simpa using HQLwC.o⟩ (kW HBwC.o fi _ _ _ _ _ _) ?_;clear c0 c1 c2 c3 c4 c5 e0 e1 e2 e3 e4 e5;rintro V3 ⟨hq3,hz3⟩ hb3;have HB3:=ze hb3;have HF:=ze (ky (c':=c') HWD.o HN.o HI.o hb3);obtain⟨⟨y0,y1,y2,y3,y4,y5⟩,-⟩:=hq3.o6;obtain⟨⟨x0,x1,x2,x3,x4,x5,x6,x7,x8,x9,x10,x11,x12,x13,x14,x15,x16⟩,-⟩:=(HBX.o.below hb3 hwb).o17;have HCR:=ze (HWD.o.cr.below hb3);obtain⟨r0,f0⟩:=HCR.o.elem_cell zh HN.o HI.o (show 0<6 by omega) rfl;obtain⟨r1,f1⟩:=HCR.o.elem_cell zh HN.o HI.o (show 1<6 by omega) rfl;obtain⟨r2,f2⟩:=HCR.o.elem_cell zh HN.o HI.o (show 2<6 by omega) rfl;obtain⟨r3,f3⟩:=HCR.o.elem_cell zh HN.o HI.o (show 3<6 by omega) rfl;obtain⟨r4,f4⟩:=HCR.o.elem_cell zh HN.o HI.o (show 4<6 by omega) rfl;obtain⟨r5,f5⟩:=HCR.o.elem_cell zh HN.o HI.o (show 5<6 by omega) rfl;have r0:V3.cell? ⟨g,i*6,none⟩=some (O J c.pos):=r0;have f0:V3.frozen? ⟨g,i*6,none⟩=false:=f0;clear x0 x1 x2 x3 x4 x5 x6 x7 x8 x9 x10 x11 x12 x13 x15 x16 hq3 hb3;go_wp2_with fail;go_region
  all_goals(
   go_wp2_with fail;go_ret;exact⟨false,⟨c',A,rn,rk,l⟩,S,trips,rfl,HF.o.below fh.drew,by omega,by omega,.inl ⟨HM.o,HMS.o,rfl,rfl,rfl⟩⟩)
end
section
open Go.RowKit HB Go.Maps CalP CumP TabP WhenP ArrP
theorem xu{w w':World}{B sz n:Nat}{A:Option Addr}{xs:List Value}{X:Nat->Prop}(h:Rd w B sz A n xs)(hB:B<=w.heap.size)(hb:But X w w')(hx:∀ b off,A=some ⟨b,off,none⟩->¬ X b):Rd w' B sz A n xs:=by
 refine⟨h.1,fun hn=>?_⟩;obtain⟨b,off,h1,h2,h3⟩:=h.2 hn;exact⟨b,off,h1,h2,fun j u hu=>(World.cell?_of_block (a:=⟨b,off+j,none⟩) (hb.block b (by omega) (hx b off h1))).trans (h3 j u hu)⟩
structure Sr where
 A:Option Addr
 (n c x:Nat)
 m:Option Nat
 gn:Nat
abbrev UN(z:Sr):List Value:=[.slice z.A z.n z.c,.pointer (some ⟨z.x,0,none⟩)]
def Sr.blk(z:Sr)(k:Nat):Prop:=(∃off,z.A=some ⟨k,off,none⟩)\/k=z.x\/z.m=some k
theorem Sr.info:(prog.info? 111).map (fun i=>(i.zero,i.size,i.bytes))=some (some (.agg #[.slice none 0 0,.pointer none]),2,32):=by kernel_rfl
structure SOk(w:World)(fl:Int)(g:Sg)(z:Sr):Prop where
 mn:Many g.r z.n
 rd:HB.Rd w w.heap.size 1 z.A z.n ((tb g.r z.n z.n).map (Value.int .u64))
 gd:Gd w z.x z.m z.gn (jd g.k fl fl 0)
 gn:z.gn<=400
theorem SOk.lt{w:World}{fl:Int}{g:Sg}{z:Sr}(h:SOk w fl g z){k:Nat}(hk:z.blk k):k<w.heap.size:=by
 rcases hk with⟨off,e⟩|rfl|e
 ·obtain⟨b,o,e2,hb,-⟩:=h.rd.2 h.mn.1;rw[e]at e2;cases e2;exact hb
 ·exact h.gd.lt
 ·exact h.gd.mv.lt e
theorem SOk.but{X:Nat->Prop}{w w':World}{fl:Int}{g:Sg}{z:Sr}(h:SOk w fl g z)(hb:But X w w')(hx:∀ k,z.blk k->¬ X k):SOk w' fl g z:=by
 have hh:w'.heap[z.x]?=w.heap[z.x]?:=hb.block z.x h.gd.lt (hx _ (.inr (.inl rfl)));exact⟨h.mn,(xu h.rd fi hb (fun b off e=>hx b (.inl ⟨off,e⟩))).mono hb.size,⟨(World.cell?_of_block (a:=⟨z.x,0,none⟩) hh).trans h.gd.c,(World.frozen?_of_block (a:=⟨z.x,0,none⟩) hh).trans h.gd.fz,h.gd.mv.but hb (fun b e=>hx b (.inr (.inr e))),h.gd.ne⟩,h.gn⟩
abbrev qF(g:Sg):Seg:=(g.k,g.t,g.r)
theorem YA{g:Nat}{w w':World}(hb:But (fun k=>k=g) w w')(hg:g<w.heap.size):Below g w w':=⟨hb.os,hb.tape,hb.output,hb.size,fun k hk=>hb.block k (by omega) (by omega)⟩
structure Gn(s:Sc)(sA:Option Addr)(sn sk:Nat)(wA:Option Addr)(wn wc:Nat)(ws:List Int)(g:Nat)(v:Value)(Z:List Sr)(t a n:Nat)(w:World):Prop where
 bx:Bx w g (s.ls sA sn sk++[.slice wA wn wc,O J a,v,O J t,O J n])
 own:Own w (g+1) 111 2 UN v Z
 lt:g<w.heap.size
 ok:∀(i:Nat)(z:Sr)(sg:Sg),Z[i]?=some z->s.segs[i]?=some sg->SOk w s.fl sg z
 len:Z.length=s.segs.length
 nb:∀ z∈Z,∀k,z.blk k->k≠g/\v.ownBlock≠some k
 sg:Sgs w g sA sn s.segs
 wd:HB.Rd w g 1 wA wn (ws.map (Value.int .u32))/\ws.length=wn
section
variable{s:Sc}{sA:Option Addr}{sn sk:Nat}{wA:Option Addr}{wn wc g:Nat}{ws:List Int}{v:Value}{Z:List Sr}{t a n:Nat}{w w':World}
theorem Gn.ownNe(H:Gn s sA sn sk wA wn wc ws g v Z t a n w):v.ownBlock≠some g:=fun e=>by have:=(H.own.row.lt g e).1;omega
theorem Gn.below(H:Gn s sA sn sk wA wn wc ws g v Z t a n w)(hb:Below w.heap.size w w'):Gn s sA sn sk wA wn wc ws g v Z t a n w':=
 ⟨H.bx.below hb H.lt,H.own.below hb,Nat.lt_of_lt_of_le H.lt hb.size,fun i z sg hz hs=>(H.ok i z sg hz hs).but (X:=fun _=>False) (But.of_below hb) (fun _ _ h=>h),H.len,H.nb,H.sg.below (hb.mono (Nat.le_of_lt H.lt)),⟨H.wd.1.below (hb.mono (Nat.le_of_lt H.lt)),H.wd.2⟩⟩
theorem Gn.turn(H:Gn s sA sn sk wA wn wc ws g v Z t a n w){t' a' n':Nat}(hb:But (fun k=>k=g) w w')(hx:Bx w' g (s.ls sA sn sk++[.slice wA wn wc,O J a',v,O J t',O J n'])):Gn s sA sn sk wA wn wc ws g v Z t' a' n' w':=
 ⟨hx,H.own.but hb (fun k e=>fun e2=>H.ownNe (e2▸e)),Nat.lt_of_lt_of_le H.lt hb.size,fun i z sg hz hs=>(H.ok i z sg hz hs).but hb (fun k hk e=>(H.nb z (List.mem_of_getElem? hz) k hk).1 e),H.len,H.nb,H.sg.below (YA hb H.lt),⟨H.wd.1.below (YA hb H.lt),H.wd.2⟩⟩
theorem Gn.at14(H:Gn s sA sn sk wA wn wc ws g v Z t a n w)(a':Nat):Gn s sA sn sk wA wn wc ws g v Z t a' n ((w.setCell ⟨g,13,none⟩ (.slice wA wn wc)).setCell ⟨g,14,none⟩ (O J a'))/\But (fun k=>k=g) w ((w.setCell ⟨g,13,none⟩ (.slice wA wn wc)).setCell ⟨g,14,none⟩ (O J a')):=by
 have hb:But (fun k=>k=g) w ((w.setCell ⟨g,13,none⟩ (.slice wA wn wc)).setCell ⟨g,14,none⟩ (O J a')):=((But.refl (fun k=>k=g) w).set (a:=⟨g,13,none⟩) (.inl rfl) _).set (a:=⟨g,14,none⟩) (.inl rfl) _;exact⟨H.turn hb (by have:=(H.bx.set 13 (.slice wA wn wc)).set 14 (O J a');simpa using this),hb⟩
theorem Gn.at16(H:Gn s sA sn sk wA wn wc ws g v Z t a n w)(t':Nat):Gn s sA sn sk wA wn wc ws g v Z t' a n (w.setCell ⟨g,16,none⟩ (O J t'))/\But (fun k=>k=g) w (w.setCell ⟨g,16,none⟩ (O J t')):=by
 have hb:But (fun k=>k=g) w (w.setCell ⟨g,16,none⟩ (O J t')):=(But.refl (fun k=>k=g) w).set (a:=⟨g,16,none⟩) (.inl rfl) _;exact⟨H.turn hb (by have:=H.bx.set 16 (O J t');simpa using this),hb⟩
theorem Gn.at17(H:Gn s sA sn sk wA wn wc ws g v Z t a n w)(n':Nat):Gn s sA sn sk wA wn wc ws g v Z t a n' (w.setCell ⟨g,17,none⟩ (O J n'))/\But (fun k=>k=g) w (w.setCell ⟨g,17,none⟩ (O J n')):=by
 have hb:But (fun k=>k=g) w (w.setCell ⟨g,17,none⟩ (O J n')):=(But.refl (fun k=>k=g) w).set (a:=⟨g,17,none⟩) (.inl rfl) _;exact⟨H.turn hb (by have:=H.bx.set 17 (O J n');simpa using this),hb⟩
theorem Gn.cells(H:Gn s sA sn sk wA wn wc ws g v Z t a n w):(w.cell? ⟨g,8,none⟩=some (.slice sA sn sk)/\w.cell? ⟨g,10,none⟩=some (O J s.hor)/\w.cell? ⟨g,13,none⟩=some (.slice wA wn wc)/\w.cell? ⟨g,14,none⟩=some (O J a)/\w.cell? ⟨g,15,none⟩=some v/\w.cell? ⟨g,16,none⟩=some (O J t)/\w.cell? ⟨g,17,none⟩=some (O J n))/\
  (w.frozen? ⟨g,13,none⟩=false/\w.frozen? ⟨g,14,none⟩=false/\w.frozen? ⟨g,15,none⟩=false/\w.frozen? ⟨g,16,none⟩=false/\w.frozen? ⟨g,17,none⟩=false):=
 ⟨⟨(H.bx 8 _ rfl).1,(H.bx 10 _ rfl).1,(H.bx 13 _ rfl).1,(H.bx 14 _ rfl).1,(H.bx 15 _ rfl).1,(H.bx 16 _ rfl).1,(H.bx 17 _ rfl).1⟩,(H.bx 13 _ rfl).2,(H.bx 14 _ rfl).2,(H.bx 15 _ rfl).2,(H.bx 16 _ rfl).2,(H.bx 17 _ rfl).2⟩
theorem Gn.src(H:Gn s sA sn sk wA wn wc ws g v Z t a n w){i:Nat}(hi:i<Z.length):∃ q k z sg,v=.slice (some ⟨q,0,none⟩) Z.length k/\q<w.heap.size/\Z[i]?=some z/\s.segs[i]?=some sg/\SOk w s.fl sg z/\w.cell? ⟨q,i*2,none⟩=some (.slice z.A z.n z.c)/\w.cell? ⟨q,i*2+1,none⟩=some (.pointer (some ⟨z.x,0,none⟩)):=by
 obtain⟨q,k,rfl,hq,hqW,hk,hc,-⟩:=H.own.at_ (by omega);have hz:Z[i]?=some Z[i]:=List.getElem?_eq_getElem hi;have hs:s.segs[i]?=some (s.segs[i]'(by rw[<-H.len];exact hi)):=List.getElem?_eq_getElem _;have hg:=fun j(hj:j<2)=>flat_get (f:=UN) (m:=2) (fun _=>rfl) _ i j _ hz hj
 refine⟨q,k,_,_,rfl,hqW,hz,hs,H.ok i _ _ hz hs,?_,?_⟩
 ·have:=hc (i*2) (.slice (Z[i]).A (Z[i]).n (Z[i]).c) (by have:=hg 0 (by omega);simpa using this);simpa using this
 ·have:=hc (i*2+1) (.pointer (some ⟨(Z[i]).x,0,none⟩)) (by have:=hg 1 (by omega);simpa using this);simpa using this
end
end
end Go.Proofs.YtdeogmbfgkepeaaGreatDoor
