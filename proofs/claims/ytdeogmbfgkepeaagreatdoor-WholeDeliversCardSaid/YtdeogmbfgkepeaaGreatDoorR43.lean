/- Contracts for WholeDelivers. -/
import Derived.Test.YtdeogmbfgkepeaaGreatDoorR42
set_option linter.unusedVariables false
set_option linter.unusedSimpArgs false
set_option maxRecDepth 100000
set_option maxHeartbeats 64000000
namespace Go.Proofs.YtdeogmbfgkepeaaGreatDoor
open Go.Proofs.Tryz
open Go.Value renaming int->O
open Go.IntKind renaming i64->J
section
open Go.RowKit HB Go.Maps CalP HeapP
structure Pa where
 (id tick frm to_:Int)
abbrev Wl(p:Pa):iZ:=[O J p.id,O J p.tick,O J p.frm,O J p.to_]
structure Pas(n:Nat)(P:List Pa):Prop where
 id:∀ j p,P[j]?=some p->p.id=((n+j:Nat):Int)
 ok:∀ p∈P,0<=p.tick/\p.tick<=1000000/\0<=p.frm/\p.frm<128/\0<=p.to_/\p.to_<128
 srt:P.Pairwise fun p q=>p.tick<=q.tick
theorem Pas.tail{n:Nat}{p:Pa}{P:List Pa}(h:Pas n (p::P)):Pas (n+1) P where
 id:=fun j q hq=>by have:=h.id (j+1) q hq;rw[this];congr 1;omega
 ok:=fun q hq=>h.ok q (yP _ hq)
 srt:=(QK.1 h.srt).2
structure CarW(s:Sc)(c:Cr)(l:List Rid):Prop where
 p0:0<=c.pos
 p1:c.pos<=127*s.gap
 d0: -1<=c.dir
 d1:c.dir<=1
 m0:0<=c.mode
 m1:c.mode<=4
 lf:c.mode=2\/c.mode=3\/c.mode=4->1<=c.left/\c.left<=64
 l0:0<=c.left/\c.left<=64
 cp:(l.length:Int)<=s.cap
structure CarT(g:Int)(c:Cr)(a t:Int):Prop where
 le:a<=t
 dr:c.mode=2\/c.mode=3\/c.mode=4->t=a+c.left-1
 rd:c.mode=1->0<=c.pos+c.dir*(t-a)/\c.pos+c.dir*(t-a)<=127*g
theorem xg(c:Cr)(k:Int):(aft c k).mode=c.mode/\(aft c k).dir=c.dir:=by
 unfold aft;split
 ·exact⟨rfl,rfl⟩
 ·split<;>exact⟨rfl,rfl⟩
theorem Z8{c:Cr}(h:c.mode=0)(k:Int):aft c k=c:=by
 unfold aft;rw[if_neg (by omega),if_neg (by omega)]
theorem xh{c:Cr}(h:c.mode=1)(k:Int):aft c k={c with pos:=c.pos+c.dir*k}:=by
 unfold aft;rw[if_neg (by omega),if_pos h]
theorem kX{c:Cr}(h:c.mode=2\/c.mode=3\/c.mode=4)(k:Int):aft c k={c with left:=c.left-k}:=by
 unfold aft;rw[if_pos h]
theorem vp{d:Int}(d0: -1<=d)(d1:d<=1):d=-1\/d=0\/d=1:=by omega
section
variable{s:Sc}{c c':Cr}{l l':List Rid}{a b t:Int}
theorem CarT.aft(h:CarT s.gap c a t)(hab:a<=b)(hb:b<=t):CarT s.gap (aft c (b-a)) b t:=by
 refine⟨hb,fun hm=>?_,fun hm=>?_⟩
 ·rw[(xg c _).1]at hm;rw[kX hm];have:=h.dr hm;show t=b+(c.left-(b-a))-1;omega
 ·rw[(xg c _).1]at hm;rw[xh hm];have:=h.rd hm;have e:c.pos+c.dir*(b-a)+c.dir*(t-b)=c.pos+c.dir*(t-a):=by rw[Int.add_assoc,<-iD];congr 2;omega
  show 0<=c.pos+c.dir*(b-a)+c.dir*(t-b)/\c.pos+c.dir*(b-a)+c.dir*(t-b)<=127*s.gap
  rw[e];exact this
theorem CarW.aft(h:CarW s c l)(hT:c.mode≠0->∃ t,CarT s.gap c a t/\b<=t)(hab:a<=b):CarW s (aft c (b-a)) l:=by
 have hm:=xg c (b-a);refine⟨?_,?_,by rw[hm.2];exact h.d0,by rw[hm.2];exact h.d1,by rw[hm.1];exact h.m0,by rw[hm.1];exact h.m1,?_,?_,h.cp⟩
 ·rcases(show c.mode=0\/c.mode=1\/(c.mode=2\/c.mode=3\/c.mode=4) by have:=h.m0;have:=h.m1;omega)with h0|h0|h0
  ·rw[Z8 h0];exact h.p0
  ·obtain⟨t,h1,h2⟩:=hT (by omega);rw[xh h0];have:=(h1.rd h0).1;have p0:=h.p0
   show 0<=c.pos+c.dir*(b-a)
   rcases vp h.d0 h.d1 with e|e|e<;>rw[e]at this⊢<;>omega
  ·rw[kX h0];exact h.p0
 ·rcases(show c.mode=0\/c.mode=1\/(c.mode=2\/c.mode=3\/c.mode=4) by have:=h.m0;have:=h.m1;omega)with h0|h0|h0
  ·rw[Z8 h0];exact h.p1
  ·obtain⟨t,h1,h2⟩:=hT (by omega);rw[xh h0];have:=(h1.rd h0).2;have p1:=h.p1
   show c.pos+c.dir*(b-a)<=127*s.gap
   rcases vp h.d0 h.d1 with e|e|e<;>rw[e]at this⊢<;>omega
  ·rw[kX h0];exact h.p1
 ·rw[hm.1];intro h0;have h3:=h.lf h0;obtain⟨t,h1,h2⟩:=hT (by omega);have:=h1.dr h0;rw[kX h0]
  show 1<=c.left-(b-a)/\c.left-(b-a)<=64
  omega
 ·rcases(show c.mode=0\/c.mode=1\/(c.mode=2\/c.mode=3\/c.mode=4) by have:=h.m0;have:=h.m1;omega)with h0|h0|h0
  ·rw[Z8 h0];exact h.l0
  ·rw[xh h0];exact h.l0
  ·have h3:=h.lf h0;obtain⟨t,h1,h2⟩:=hT (by omega);have:=h1.dr h0;rw[kX h0]
   show 0<=c.left-(b-a)/\c.left-(b-a)<=64
   omega
variable{I T:Int}{trips trips':List Tr}{W W':HK->List Wt}{R:List (List Rid)}{i:Nat}
theorem CarR.w(h:CarR s I T c l trips W c' l' trips' W')(hs:s.ok)(hw:CarW s c l):CarW s c' l':=by
 rcases h with⟨hm,h1,rfl,rfl,rfl⟩|⟨hm,rfl,rfl,rfl,rfl⟩|⟨hm,hl,rfl,rfl,rfl,rfl⟩|⟨hm,hl,D,D0,D1,h1⟩
 ·have ho:=hs.opn;rcases h1.m with⟨e1,e2,e3⟩|⟨e1,e2⟩|⟨e1,e2,e3⟩|⟨e1,e2,e3⟩<;>exact⟨h1.p0,h1.p1,h1.d0,h1.d1,by omega,by omega,fun h=>by omega,by have:=hw.l0;omega,hw.cp⟩
 ·have:=hw.lf (by omega);split
  ·exact⟨hw.p0,hw.p1,hw.d0,hw.d1,by simp,by simp,fun h=>by simp at h,by simp,hw.cp⟩
  ·exact⟨hw.p0,hw.p1,hw.d0,hw.d1,hw.m0,hw.m1,fun h=>(show 1<=c.left-1/\c.left-1<=64 by omega),(show 0<=c.left-1/\c.left-1<=64 by omega),hw.cp⟩
 ·have:=hw.lf (by omega);exact⟨hw.p0,hw.p1,hw.d0,hw.d1,hw.m0,hw.m1,fun h=>(show 1<=c.left-1/\c.left-1<=64 by omega),(show 0<=c.left-1/\c.left-1<=64 by omega),hw.cp⟩
 ·obtain⟨e1,e2,e3,e4⟩:=h1.car hs;have e1:c'.pos=c.pos:=e1;exact⟨by rw[e1];exact hw.p0,by rw[e1];exact hw.p1,by omega,by omega,by omega,by omega,fun _=>e4,by omega,h1.cap hw.cp⟩
theorem fe{α:Type}{l:List α}{i:Nat}{x:α}(h:l[i]?=some x):l.set i x=l:=by
 apply bT;intro j;rw[vt];split
 ·rename_i e;subst e;split
  ·exact h.symm
  ·rename_i e;rw[Y0 (by omega)]
 ·rfl
theorem CarR.inv(h:CarR s I T c l trips W c' l' trips' W')(hi:Inv T trips W R)(hl:R[i]?=some l)(hT:0<=T):Inv T trips' W' (R.set i l'):=by
 rcases h with⟨hm,h1,rfl,rfl,rfl⟩|⟨hm,rfl,rfl,rfl,rfl⟩|⟨hm,hl9,rfl,rfl,rfl,rfl⟩|⟨hm,hl9,D,D0,D1,h1⟩
 ·rw[fe hl];exact hi
 ·rw[fe hl];exact hi
 ·rw[fe hl];exact hi
 ·exact h1.inv hi hl hT
theorem CarR.len(h:CarR s I T c l trips W c' l' trips' W'):trips'.length=trips.length:=by
 rcases h with⟨hm,h1,rfl,rfl,rfl⟩|⟨hm,rfl,rfl,rfl,rfl⟩|⟨hm,hl,rfl,rfl,rfl,rfl⟩|⟨hm,hl,D,D0,D1,h1⟩
 ·rfl
 ·rfl
 ·rfl
 ·exact h1.len
end
structure EInv(s:Sc)(tau T:Int)(P:List Pa)(L:List Ca)(at_:l8)(trips:List Tr)(W:HK->List Wt)(l:List En)(ex:Nat->Prop):Prop where
 len:at_.length=L.length
 car:∀ x∈L,CarW s x.c x.l
 at0:∀ a∈at_,0<=a
 inv:Inv T trips W (L.map (·.l))
 T0:0<=T
 tT:T<=tau
 low:∀ e∈l,tau<=e.t
 ev:∀ e∈l,(e.k=1/\∃(j:Nat)(x:Ca)(a:Int),e.i=j/\L[j]?=some x/\at_[j]?=some a/\CarT s.gap x.c a e.t)\/(e.k=0/\e.i=0/\∃ p P',P=p::P'/\e.t=p.tick)
 lk:∀(j:Nat) x,L[j]?=some x->¬ ex j->x.c.mode≠0->∃ e∈l,e.k=1/\e.i=j
 ps:Pas trips.length P
section
variable{s:Sc}{tau T:Int}{P P':List Pa}{L:List Ca}{at_:l8}{trips trips':List Tr}{W W':HK->List Wt}{l l':List En}{ex ex':Nat->Prop}{j:Nat}{x y:Ca}{a b:Int}{p:Pa}{e:En}
theorem Ux(hj:L[j]?=some x)(c:Cr):(L.set j {x with c:=c}).map (·.l)=L.map (·.l):=by
 rw[List.map_set];exact fe (by rw[QL,hj];rfl)
theorem EInv.adv(H:EInv s tau T P L at_ trips W l ex)(hj:L[j]?=some x)(ha:at_[j]?=some a)(hab:a<=b)(hT:x.c.mode≠0->∃ t,CarT s.gap x.c a t/\b<=t)(he:∀ e∈l,e.k=1->e.i=j->b<=e.t):
  EInv s tau T P (L.set j {x with c:=aft x.c (b-a)}) (at_.set j b) trips W l ex where
 len:=by rw[ye,ye];exact H.len
 car:=fun z hz=>by
  obtain⟨k,hk⟩:=Z5 hz;rcases zx hk with⟨-,rfl,-⟩|⟨-,hk⟩
  ·exact(H.car x (jx hj)).aft hT hab
  ·exact H.car z (jx hk)
 at0:=fun z hz=>by
  obtain⟨k,hk⟩:=Z5 hz;rcases zx hk with⟨-,rfl,-⟩|⟨-,hk⟩
  ·have:=H.at0 a (jx ha);omega
  ·exact H.at0 z (jx hk)
 inv:=by rw[Ux hj];exact H.inv
 T0:=H.T0
 tT:=H.tT
 low:=H.low
 ev:=fun e hm=>by
  rcases H.ev e hm with⟨h1,k,z,d,h2,h3,h4,h5⟩|h
  ·refine .inl ⟨h1,?_⟩;by_cases hk:j=k
   ·subst hk;have e1:=ve (h3.symm.trans hj);have e2:=ve (h4.symm.trans ha);subst e1;subst e2;exact⟨j,_,b,h2,by rw[vt,if_pos rfl,if_pos (qd.1 hj).1],by rw[vt,if_pos rfl,if_pos (qd.1 ha).1],h5.aft hab (he e hm h1 h2)⟩
   ·exact⟨k,z,d,h2,by rw[vt,if_neg hk];exact h3,by rw[vt,if_neg hk];exact h4,h5⟩
  ·exact .inr h
 lk:=fun k z hz hx hm=>by
  rcases zx hz with⟨rfl,rfl,-⟩|⟨-,hz⟩
  ·exact H.lk j x hj hx (by have:=(xg x.c (b-a)).1;simpa[this]using hm)
  ·exact H.lk k z hz hx hm
 ps:=H.ps
theorem EInv.plan(H:EInv s tau T P L at_ trips W l ex)(hj:L[j]?=some x)(ha:at_[j]?=some a)(ht:tau<=a){N:Int}(hN:NextP s.gap x.c N)(hl:l'.Perm (⟨a+N-1,1,j⟩::wo l 1 j)):
  EInv s tau T P L at_ trips W l' (fun k=>ex k/\k≠j) where
 len:=H.len
 car:=H.car
 at0:=H.at0
 inv:=H.inv
 T0:=H.T0
 tT:=H.tT
 low:=fun e he=>by
  rcases qx.1 (hl.mem_iff.1 he)with rfl|he
  ·have:=hN.n0;show tau<=a+N-1;omega
  ·exact H.low e (zY.1 he).1
 ev:=fun e he=>by
  rcases qx.1 (hl.mem_iff.1 he)with rfl|he
  ·have n0:=hN.n0;refine .inl ⟨rfl,j,x,a,rfl,hj,ha,⟨by show a<=a+N-1;omega,fun h=>?_,fun h=>?_⟩⟩
   ·have:=hN.door h;show a+N-1=a+x.c.left-1;omega
   ·have:=hN.ride h;rw[show(⟨a+N-1,1,(j:Int)⟩:En).t-a=N-1 by show a+N-1-a=N-1;omega];exact this
  ·exact H.ev e (zY.1 he).1
 lk:=fun k z hz hx hm=>by
  by_cases hk:k=j
  ·subst hk;exact⟨_,hl.mem_iff.2 (xz ..),rfl,rfl⟩
  ·obtain⟨e,h1,h2,h3⟩:=H.lk k z hz (fun h=>hx ⟨h,hk⟩) hm;exact⟨e,hl.mem_iff.2 (yP _ (zY.2 ⟨h1,fun h=>hk (by have:=h.2;omega)⟩)),h2,h3⟩
 ps:=H.ps
theorem EInv.rest(H:EInv s tau T P L at_ trips W l ex)(hj:L[j]?=some x)(hm:x.c.mode=0):EInv s tau T P L at_ trips W (wo l 1 j) (fun k=>ex k/\k≠j) where
 len:=H.len
 car:=H.car
 at0:=H.at0
 inv:=H.inv
 T0:=H.T0
 tT:=H.tT
 low:=fun e he=>H.low e (zY.1 he).1
 ev:=fun e he=>H.ev e (zY.1 he).1
 lk:=fun k z hz hx hm'=>by
  by_cases hk:k=j
  ·subst hk;rw[hj]at hz;cases hz;exact absurd hm hm'
  ·obtain⟨e,h1,h2,h3⟩:=H.lk k z hz (fun h=>hx ⟨h,hk⟩) hm';exact⟨e,zY.2 ⟨h1,fun h=>hk (by have:=h.2;omega)⟩,h2,h3⟩
 ps:=H.ps
theorem EInv.ex_mono(H:EInv s tau T P L at_ trips W l ex)(h:∀ k,k<L.length->ex k->ex' k):EInv s tau T P L at_ trips W l ex':=
 ⟨H.len,H.car,H.at0,H.inv,H.T0,H.tT,H.low,H.ev,fun k z hz hx hm=>H.lk k z hz (fun h'=>hx (h k (qd.1 hz).1 h')) hm,H.ps⟩
theorem EInv.next(H:EInv s tau T (p::P') L at_ trips W l ex)(hp:tau<=p.tick)(hl:l'.Perm (⟨p.tick,0,0⟩::wo l 0 0)):EInv s tau T (p::P') L at_ trips W l' ex where
 len:=H.len
 car:=H.car
 at0:=H.at0
 inv:=H.inv
 T0:=H.T0
 tT:=H.tT
 low:=fun e he=>by
  rcases qx.1 (hl.mem_iff.1 he)with rfl|he
  ·exact hp
  ·exact H.low e (zY.1 he).1
 ev:=fun e he=>by
  rcases qx.1 (hl.mem_iff.1 he)with rfl|he
  ·exact .inr ⟨rfl,rfl,p,P',rfl,rfl⟩
  ·exact H.ev e (zY.1 he).1
 lk:=fun k z hz hx hm=>by
  obtain⟨e,h1,h2,h3⟩:=H.lk k z hz hx hm;exact⟨e,hl.mem_iff.2 (yP _ (zY.2 ⟨h1,fun h=>by omega⟩)),h2,h3⟩
 ps:=H.ps
theorem EInv.adm(H:EInv s tau T (p::P') L at_ trips W l ex)(hk:∀ e∈l,e.k≠0)(hp:p.tick<=T)(k:HK)(wt:Wt)(hw:wt.id=p.id)(tr:Tr)(h0:tr.ar=p.tick)(h1:tr.bo=-1)(h2:tr.al=-1):
  EInv s tau T P' L at_ (trips++[tr]) (qf W k (W k++[wt])) l ex where
 len:=H.len
 car:=H.car
 at0:=H.at0
 inv:=H.inv.adm tr wt k (by rw[h0];exact(H.ps.ok p (xz ..)).1) (by rw[h0];exact hp) h1 h2 (by rw[hw,H.ps.id 0 p rfl];rfl)
 T0:=H.T0
 tT:=H.tT
 low:=H.low
 ev:=fun e he=>by
  rcases H.ev e he with h|h
  ·exact .inl h
  ·exact absurd h.1 (hk e he)
 lk:=H.lk
 ps:=by rw[kC];exact H.ps.tail
theorem EInv.step(hs:s.ok)(H:EInv s tau T P L at_ trips W l ex)(hj:L[j]?=some x)(hex:ex j)(he:∀ e∈l,¬(e.k=1/\e.i=j))(hr:CarR s j T x.c x.l trips W y.c y.l trips' W'):EInv s tau T P (L.set j y) at_ trips' W' l ex where
 len:=by rw[ye];exact H.len
 car:=fun z hz=>by
  obtain⟨k,hk⟩:=Z5 hz;rcases zx hk with⟨-,rfl,-⟩|⟨-,hk⟩
  ·exact hr.w hs (H.car x (jx hj))
  ·exact H.car z (jx hk)
 at0:=H.at0
 inv:=by rw[List.map_set];exact hr.inv H.inv (by rw[QL,hj];rfl) H.T0
 T0:=H.T0
 tT:=H.tT
 low:=H.low
 ev:=fun e hm=>by
  rcases H.ev e hm with⟨h1,k,z,d,h2,h3,h4,h5⟩|h
  ·have hk:j≠k:=fun h=>he e hm ⟨h1,by rw[h2,h]⟩
   exact .inl ⟨h1,k,z,d,h2,by rw[vt,if_neg hk];exact h3,h4,h5⟩
  ·exact .inr h
 lk:=fun k z hz hx hm=>by
  rcases zx hz with⟨rfl,rfl,-⟩|⟨-,hz⟩
  ·exact absurd hex hx
  ·exact H.lk k z hz hx hm
 ps:=by rw[hr.len];exact H.ps
theorem EInv.tick(H:EInv s tau T P L at_ trips W l ex)(ha:at_[j]?=some a)(hab:a<=b)(he:∀ e∈l,¬(e.k=1/\e.i=j)):EInv s tau T P L (at_.set j b) trips W l ex where
 len:=by rw[ye];exact H.len
 car:=H.car
 at0:=fun z hz=>by
  obtain⟨k,hk⟩:=Z5 hz;rcases zx hk with⟨-,rfl,-⟩|⟨-,hk⟩
  ·have:=H.at0 a (jx ha);omega
  ·exact H.at0 z (jx hk)
 inv:=H.inv
 T0:=H.T0
 tT:=H.tT
 low:=H.low
 ev:=fun e hm=>by
  rcases H.ev e hm with⟨h1,k,z,d,h2,h3,h4,h5⟩|h
  ·have hk:j≠k:=fun h=>he e hm ⟨h1,by rw[h2,h]⟩
   exact .inl ⟨h1,k,z,d,h2,h3,by rw[vt,if_neg hk];exact h4,h5⟩
  ·exact .inr h
 lk:=H.lk
 ps:=H.ps
theorem EInv.time(H:EInv s tau T P L at_ trips W l ex){T':Int}(h1:T<=T')(h2:T'<=tau):EInv s tau T' P L at_ trips W l ex:=
 ⟨H.len,H.car,H.at0,H.inv.later h1,iQ H.T0 h1,h2,H.low,H.ev,H.lk,H.ps⟩
theorem EInv.tau_(H:EInv s tau T P L at_ trips W l ex){tau':Int}(h1:tau<=tau')(h2:∀ e∈l,tau'<=e.t):EInv s tau' T P L at_ trips W l ex:=
 ⟨H.len,H.car,H.at0,H.inv,H.T0,iQ H.tT h1,h2,H.ev,H.lk,H.ps⟩
theorem GA{a b:En}(h:HeapP.le a b):a.t<=b.t/\(a.t=b.t->a.k<=b.k/\(a.k=b.k->a.i<=b.i)):=by
 unfold HeapP.le lt at h;split at h
 ·have:=of_decide_eq_false h;omega
 ·split at h
  ·have:=of_decide_eq_false h;omega
  ·have:=of_decide_eq_false h;omega
theorem EInv.pop(H:EInv s tau T P L at_ trips W (e::l) ex)(hs:Zo (e::l)):EInv s e.t T P L at_ trips W l (fun k=>ex k\/(e.k=1/\e.i=k)) where
 len:=H.len
 car:=H.car
 at0:=H.at0
 inv:=H.inv
 T0:=H.T0
 tT:=iQ H.tT (H.low e (xz ..))
 low:=fun f hf=>(GA ((QK.1 hs).1 f hf)).1
 ev:=fun f hf=>H.ev f (yP _ hf)
 lk:=fun k z hz hx hm=>by
  obtain⟨f,h1,h2,h3⟩:=H.lk k z hz (fun h=>hx (.inl h)) hm;rcases qx.1 h1 with rfl|h1
  ·exact absurd (.inr ⟨h2,h3⟩) hx
  ·exact⟨f,h1,h2,h3⟩
 ps:=H.ps
theorem cO(H:EInv s tau T P L at_ trips W (e::l) ex)(hs:Zo (e::l))(hu:Uq (e::l))(hk:e.k=1):∀ f∈l,f.k=1/\f.i≠e.i/\(f.i<e.i->e.t+1<=f.t)\/f.k=0/\e.t+1<=f.t:=fun f hf=>by
 have h1:=GA ((QK.1 hs).1 f hf);have h2:=(QK.1 hu).1 f hf;rcases H.ev f (yP _ hf)with⟨h3,-⟩|⟨h3,-⟩
 ·refine .inl ⟨h3,fun h=>h2 ⟨by omega,h.symm⟩,fun h=>?_⟩;by_cases h4:e.t=f.t
  ·have:=(h1.2 h4).2 (by omega);omega
  ·omega
 ·refine .inr ⟨h3,?_⟩;by_cases h4:e.t=f.t
  ·have:=(h1.2 h4).1;omega
  ·omega
def zM(u:Int)(P:List Pa)(at_:l8):Nat:=P.length+(at_.map fun a=>(u-a).toNat).sum
theorem xa(f:Int->Nat):∀(l:l8)(j:Nat)(a b:Int),l[j]?=some a->((l.set j b).map f).sum+f a=(l.map f).sum+f b
 |[],j,a,b,h=>by simp at h
 |x::l,0,a,b,h=>by simp at h;subst h;simp;omega
 |x::l,j+1,a,b,h=>by
  have:=xa f l j a b (by simpa using h);simp only[List.set_cons_succ,JF,List.sum_cons];omega
theorem GB{u:Int}(ha:at_[j]?=some a)(hab:a<=b):zM u P (at_.set j b)<=zM u P at_:=by
 have:=xa (fun a=>(u-a).toNat) at_ j a b ha;unfold zM;have h2:(u-b).toNat<=(u-a).toNat:=by omega
 omega
theorem Uy{u:Int}(ha:at_[j]?=some a)(hab:a<b)(hu:b<=u):zM u P (at_.set j b)+1<=zM u P at_:=by
 have:=xa (fun a=>(u-a).toNat) at_ j a b ha;unfold zM;have h2:(u-b).toNat+1<=(u-a).toNat:=by omega
 omega
theorem EInv.fresh(hc:∀ x∈L,CarW s x.c x.l/\x.l=[]/\x.c.mode=0)(ha:∀ a∈at_,a=0)(hn:at_.length=L.length)(hp:Pas 0 P):EInv s 0 0 P L at_ [] (fun _=>[]) [] (fun _=>False) where
 len:=hn
 car:=fun x hx=>(hc x hx).1
 at0:=fun a h=>by rw[ha a h];exact Vu _
 inv:=Inv.none _ (fun l hl=>by obtain⟨x,hx,rfl⟩:=Vl.1 hl;exact(hc x hx).2.1) 0
 T0:=Vu _
 tT:=Vu _
 low:=fun e he=>by cases he
 ev:=fun e he=>by cases he
 lk:=fun j x hj _ hm=>absurd (hc x (jx hj)).2.2 hm
 ps:=hp
end
structure Egs where
 (wb h:Nat)
 S:HS
 (cv tv:Value)
 L:List Ca
 trips:List Tr
 T:Int
 F:Fr
 g:Nat
 m:Option Nat
 nm:Nat
 (HL l:List En)
 pA:iX
 (pn pc:Nat)
 P:List Pa
 ab:Nat
 at_:l8
 (yb yn yc:Nat)
 Y:List Bu
 G:List (List Lg)
 evn:Int
 tag:Nat->Nat
structure EgTag(base x:Nat)(E:Egs)(z:Nat):Prop where
 lo:∀ k,E.tag k≠0->base<=k/\k<z
 t1:∀ k,Wx E.wb E.h E.S E.cv E.tv k\/RBk E.L k->E.tag k=1
 t2:∀ k,Xb x E.g E.m k->E.tag k=2
 t3:E.tag E.ab=3
 t4:E.tag E.yb=4
 t5:∀ i b,E.Y[i]?=some b->∀ k,b.v.ownBlock=some k->E.tag k=5+i
structure Eg(base:Nat)(s:Sc)(sA:iX)(sn sk x:Nat)(E:Egs)(w:l6):Prop where
 wd:Wd base s sA sn sk E.wb E.h w E.S E.cv E.tv E.L E.trips E.T
 cs:Cs w x E.F E.g E.m E.nm E.HL E.l
 f0:E.F 0=(some (.pointer (some ⟨E.wb,0,none⟩)),false)
 f1:E.F 1=(some (.slice E.pA E.pn E.pc),false)
 f4:E.F 4=(some (.slice (some ⟨E.ab,0,none⟩) E.at_.length E.at_.length),false)
 f5:E.F 5=(some (.slice (some ⟨E.yb,0,none⟩) E.yn E.yc),false)
 f6:E.F 6=(some (O J E.evn),false)
 ao:Own w base 3 1 (fa .i64) (.slice (some ⟨E.ab,0,none⟩) E.at_.length E.at_.length) E.at_
 wy:∀ i b,E.Y[i]?=some b->∃ l,E.G[i]?=some l/\Way w base E.yb E.yn E.yc E.Y i b l
 yl:E.Y.length=E.yn/\E.yn<=E.yc
 gl:E.G.length=E.yn
 pe:Rd w base 4 E.pA E.pn (E.P.flatMap Wl)
 pl:E.P.length=E.pn/\E.pn<=E.pc
 bs:base<=w.heap.size
 tg:EgTag base x E w.heap.size
def Wm(t:Nat->Nat)(j a b:Nat):Nat->Nat:=fun k=>if k<a then t k else if k<b then j else 0
theorem Qs{t:Nat->Nat}{j a b k:Nat}(h:k<a):Wm t j a b k=t k:=by unfold Wm;rw[if_pos h]
theorem Qt{t:Nat->Nat}{j a b k:Nat}(h:a<=k)(h':k<b):Wm t j a b k=j:=by unfold Wm;rw[if_neg (by omega),if_pos h']
section
variable{base:Nat}{s:Sc}{sA:iX}{sn sk x:Nat}{E:Egs}{w w':l6}
theorem Mp.keptB{X:Nat->Prop}{w w':l6}{m:Option Nat}{n:Nat}{l:List En}(h:Mp w m n l)(ho:But X w w')(hx:∀ b,m=some b->¬ X b):Mp w' m n l:=by
 rcases h with h|⟨b,D,h1,⟨es,clock,k1,k2,k3,k4⟩,h3⟩
 ·exact .inl h
 ·have hl:b<w.heap.size:=(Vp.1 k1).1;exact .inr ⟨b,D,h1,⟨es,clock,(ho.block b hl (hx b h1)).trans k1,k2,k3,k4⟩,h3⟩
theorem Cs.but{X:Nat->Prop}{w w':l6}{p g n:Nat}{F:Fr}{m:Option Nat}{L l:List En}(h:Cs w p F g m n L l)(hb:But X w w')(hx:∀ k,Xb p g m k->¬ X k):Cs w' p F g m n L l:=by
 have hp:=hb.block p h.pl (hx p (.inl rfl));exact⟨h.hp.kept hb.size hp (hb.block g h.hp.gl (hx g (.inr (.inl rfl)))),(vg (a:=⟨p,3,none⟩) hp).trans h.mc,(xC (a:=⟨p,3,none⟩) hp).trans h.mf,h.ch,
  Mp.keptB h.mp hb (fun b hm=>hx b (.inr (.inr hm))),h.ne,fun o h1 h2=>⟨(vg (a:=⟨p,o,none⟩) hp).trans (h.re o h1 h2).1,(xC (a:=⟨p,o,none⟩) hp).trans (h.re o h1 h2).2⟩⟩
theorem Cs.setF{w:l6}{p g n:Nat}{F:Fr}{m:Option Nat}{L l:List En}(h:Cs w p F g m n L l){o:Nat}(h2:o≠2)(h3:o≠3){u0:Value}(h0:F o=(some u0,false))(u:Value):
  Cs (w.setCell ⟨p,o,none⟩ u) p (fun k=>if k=o then(some u,false)else F k) g m n L l/\But (fun k=>k=p) w (w.setCell ⟨p,o,none⟩ u):=by
 have hc:w.cell? ⟨p,o,none⟩=some u0:=by rw[(h.re o h2 h3).1,h0]
 have hd:w.frozen? ⟨p,o,none⟩=false:=by rw[(h.re o h2 h3).2,h0]
 have other:∀ k,k≠o->(w.setCell ⟨p,o,none⟩ u).cell? ⟨p,k,none⟩=w.cell? ⟨p,k,none⟩:=fun k hk=>Zm _ _ _ _ (by intro e;injection e with _ e _;exact hk e.symm)
 have hf:=h.pl;have he:=h.hp.gl;have hB:But (fun k=>k=p) w (w.setCell ⟨p,o,none⟩ u):=(But.refl (fun k=>k=p) w).at1 rfl o u;refine⟨⟨?_,(other 3 (Ne.symm h3)).trans h.mc,by rw[yD];exact h.mf,h.ch,Mp.keptB h.mp hB (fun b hb e=>(h.ne b hb).1 e),h.ne,fun k k2 k3=>?_⟩,hB⟩
 ·obtain⟨v,h1,h2',ha,h4,h5⟩:=h.hp;refine⟨v,(other 2 (Ne.symm h2)).trans h1,by rw[yD];exact h2',by simpa using ha,h4.other fun b k c hv=>QO _ _ _ _ ?_,?_⟩
  ·rcases h5 with⟨rfl,_⟩|⟨c',rfl,_,hg,_⟩
   ·simp at hv
   ·simp at hv;obtain⟨rfl,_⟩:=hv;exact hg
  ·rcases h5 with h5|⟨c,h6,h7,h8,h9⟩
   ·exact .inl h5
   ·exact .inr ⟨c,h6,h7,h8,by simpa using h9⟩
 ·by_cases hk:k=o
  ·subst hk;rw[if_pos rfl];exact⟨KO _ _ _ hc,by rw[yD];exact hd⟩
  ·rw[if_neg hk];exact⟨(other k hk).trans (h.re k k2 k3).1,by rw[yD];exact(h.re k k2 k3).2⟩
theorem Way.but{X:Nat->Prop}{w w':l6}{base yb n c:Nat}{Y:List Bu}{i:Nat}{b:Bu}{l:List Lg}(h:Way w base yb n c Y i b l)(hb:But X w w')(h1:¬ X yb)(h2:∀ k,b.v.ownBlock=some k->¬ X k):Way w' base yb n c Y i b l:=
 ⟨h.own.but hb (fun k hk=>by cases hk;exact h1),h.len,h.at_,h.legs.but hb h2,h.ne,h.ok,h.t0,h.t1,h.n0,h.n1,h.ll⟩
theorem EgTag.up(h:EgTag base x E w.heap.size)(hz:w.heap.size<=w'.heap.size)(j:Nat)(hb:base<=w.heap.size):∀ k,Wm E.tag j w.heap.size w'.heap.size k≠0->base<=k/\k<w'.heap.size:=fun k hk=>by
 unfold Wm at hk;split at hk
 ·have:=h.lo k hk;omega
 ·split at hk
  ·omega
  ·exact absurd rfl hk
theorem EgTag.lt(h:EgTag base x E w.heap.size){k j:Nat}(hk:E.tag k=j)(hj:0<j):k<w.heap.size:=(h.lo k (by omega)).2
theorem EgTag.keep(h:EgTag base x E w.heap.size){k i j:Nat}(hk:E.tag k=i)(hi:0<i)(b:Nat):Wm E.tag j w.heap.size b k=i:=by rw[Qs (h.lt hk hi)];exact hk
theorem Eg.apart{i j:Nat}{X:Nat->Prop}(hX:∀ k,X k->E.tag k=j)(hij:i≠j){k:Nat}(hk:E.tag k=i):¬ X k:=fun h=>hij (hk.symm.trans (hX k h))
theorem Eg.rows{X:Nat->Prop}(H:Eg base s sA sn sk x E w)(hb:But X w w')(hX:∀ k,X k->E.tag k≠0):Below base w w':=hb.below (fun k hk=>(H.tg.lo k (hX k hk)).1) H.bs
theorem Eg.world(H:Eg base s sA sn sk x E w){S':HS}{cv' tv':Value}{L':List Ca}{trips':List Tr}{T':Int}(hn:WdN base s sA sn sk E.wb E.h w E.S E.cv E.tv E.L w' S' cv' tv' L' trips' T'):
  Eg base s sA sn sk x {E with S:=S',cv:=cv',tv:=tv',L:=L',trips:=trips',T:=T',tag:=Wm E.tag 1 w.heap.size w'.heap.size} w'/\Below base w w':=by
 have hX:∀ k,Wx E.wb E.h E.S E.cv E.tv k->E.tag k=1:=fun k hk=>H.tg.t1 k (.inl hk)
 have hB:=H.rows hn.but (fun k hk=>by rw[hX k hk];omega);refine⟨⟨hn.wd,Cs.but H.cs hn.but (fun k hk=>Eg.apart hX (by omega) (H.tg.t2 k hk)),H.f0,H.f1,H.f4,H.f5,H.f6,H.ao.but hn.but (fun k hk=>by cases hk;exact Eg.apart hX (by omega) H.tg.t3),fun i b hi=>?_,H.yl,H.gl,H.pe.below hB,H.pl,vD H.bs hn.but.size,⟨H.tg.up hn.but.size 1 H.bs,?_,fun k hk=>H.tg.keep (H.tg.t2 k hk) (by omega) _,H.tg.keep H.tg.t3 (by omega) _,H.tg.keep H.tg.t4 (by omega) _,fun i b hi k hk=>H.tg.keep (H.tg.t5 i b hi k hk) (by omega) _⟩⟩,hB⟩
 ·obtain⟨l,h1,h2⟩:=H.wy i b hi;exact⟨l,h1,Way.but h2 hn.but (Eg.apart hX (by omega) H.tg.t4) (fun k hk=>Eg.apart hX (by omega) (H.tg.t5 i b hi k hk))⟩
 ·intro k hk;rcases YF k w.heap.size with h1|h1
  ·show Wm _ _ _ _ k=1
   rw[Qs h1];refine H.tg.t1 k ?_;rcases hk with hk|hk
   ·exact .inl (hn.x k h1 hk)
   ·exact .inr (hn.r k h1 hk)
  ·refine Qt h1 ?_;rcases hk with hk|hk
   ·exact(hn.wd.xlt hk).2
   ·exact(hn.wd.s4 k hk).2.1
theorem Eg.cal(H:Eg base s sA sn sk x E w){g':Nat}{m':Option Nat}{n':Nat}{HL' l':List En}(hc:Cs w' x E.F g' m' n' HL' l')(hb:But (Xb x E.g E.m) w w')(hx:∀ k,k<w.heap.size->Xb x g' m' k->Xb x E.g E.m k):
  Eg base s sA sn sk x {E with g:=g',m:=m',nm:=n',HL:=HL',l:=l',tag:=Wm E.tag 2 w.heap.size w'.heap.size} w'/\Below base w w':=by
 have hX:∀ k,Xb x E.g E.m k->E.tag k=2:=H.tg.t2;have hB:=H.rows hb (fun k hk=>by rw[hX k hk];omega);refine⟨⟨H.wd.but_ hb (fun k hk=>Eg.apart hX (by omega) (H.tg.t1 k (.inl hk))) (fun k hk=>Eg.apart hX (by omega) (H.tg.t1 k (.inr hk))),hc,H.f0,H.f1,H.f4,H.f5,H.f6,H.ao.but hb (fun k hk=>by cases hk;exact Eg.apart hX (by omega) H.tg.t3),fun i b hi=>?_,H.yl,H.gl,H.pe.below hB,H.pl,vD H.bs hb.size,⟨H.tg.up hb.size 2 H.bs,fun k hk=>H.tg.keep (H.tg.t1 k hk) (by omega) _,?_,H.tg.keep H.tg.t3 (by omega) _,H.tg.keep H.tg.t4 (by omega) _,fun i b hi k hk=>H.tg.keep (H.tg.t5 i b hi k hk) (by omega) _⟩⟩,hB⟩
 ·obtain⟨l,h1,h2⟩:=H.wy i b hi;exact⟨l,h1,Way.but h2 hb (Eg.apart hX (by omega) H.tg.t4) (fun k hk=>Eg.apart hX (by omega) (H.tg.t5 i b hi k hk))⟩
 ·intro k hk;rcases YF k w.heap.size with h1|h1
  ·show Wm _ _ _ _ k=2
   rw[Qs h1];exact hX k (hx k h1 hk)
  ·exact Qt h1 (hc.xlt hk)
theorem Eg.way(H:Eg base s sA sn sk x E w){i:Nat}{b b':Bu}{l':List Lg}{k:Int}(hi:E.Y[i]?=some b)(hw:WayP w base E.yb E.yn E.yc E.Y i b k w' b' l'):
  Eg base s sA sn sk x {E with Y:=E.Y.set i b',G:=E.G.set i l',tag:=Wm E.tag (5+i) w.heap.size w'.heap.size} w'/\Below base w w':=by
 have hY:E.tag E.yb=4:=H.tg.t4;have hV:∀ k,b.v.ownBlock=some k->E.tag k=5+i:=H.tg.t5 i b hi;have h0:∀{j q:Nat},E.tag q=j->j≠4->j≠5+i->¬ (q=E.yb\/b.v.ownBlock=some q):=fun h h1 h2 hx=>by
  rcases hx with rfl|hx
  ·exact h1 (h.symm.trans hY)
  ·exact h2 (h.symm.trans (hV _ hx))
 have hB:=H.rows hw.but (fun k hk=>by rcases hk with rfl|hk;(rw[hY];omega);(rw[hV k hk];omega));have h4:i<E.yn:=by rw[<-H.yl.1];exact(qd.1 hi).1
 refine⟨⟨H.wd.but_ hw.but (fun k hk=>h0 (H.tg.t1 k (.inl hk)) (by omega) (by omega)) (fun k hk=>h0 (H.tg.t1 k (.inr hk)) (by omega) (by omega)),Cs.but H.cs hw.but (fun k hk=>h0 (H.tg.t2 k hk) (by omega) (by omega)),H.f0,H.f1,H.f4,H.f5,H.f6,H.ao.but hw.but (fun k hk=>by cases hk;exact h0 H.tg.t3 (by omega) (by omega)),fun j d hj=>?_,⟨by rw[ye];exact H.yl.1,H.yl.2⟩,by rw[ye];exact H.gl,H.pe.below hB,H.pl,vD H.bs hw.but.size,⟨H.tg.up hw.but.size (5+i) H.bs,fun k hk=>H.tg.keep (H.tg.t1 k hk) (by omega) _,fun k hk=>H.tg.keep (H.tg.t2 k hk) (by omega) _,H.tg.keep H.tg.t3 (by omega) _,H.tg.keep H.tg.t4 (by omega) _,?_⟩⟩,hB⟩
 ·rcases zx hj with⟨rfl,rfl,-⟩|⟨h3,hj⟩
  ·exact⟨l',by rw[vt,if_pos rfl,if_pos (by rw[H.gl];exact h4)],hw.way⟩
  ·obtain⟨l2,h1,h2⟩:=H.wy j d hj;refine⟨l2,by rw[vt,if_neg h3];exact h1,⟨hw.way.own,hw.way.len,by rw[vt,if_neg h3];exact hj,h2.legs.but hw.but (fun k hk=>h0 (H.tg.t5 j d hj k hk) (by omega) (by omega)),h2.ne,h2.ok,h2.t0,h2.t1,h2.n0,h2.n1,h2.ll⟩⟩
 ·intro j d hj k hk;rcases zx hj with⟨rfl,rfl,-⟩|⟨h3,hj⟩
  ·rcases hw.new k hk with h1|h1
   ·exact H.tg.keep (hV k h1) (by omega) _
   ·exact Qt h1 (hw.way.legs.lt hk).2
  ·exact H.tg.keep (H.tg.t5 j d hj k hk) (by omega) _
theorem Eg.below(H:Eg base s sA sn sk x E w)(hb:Below w.heap.size w w'):Eg base s sA sn sk x E w' where
 wd:=H.wd.below hb
 cs:=H.cs.below hb
 f0:=H.f0
 f1:=H.f1
 f4:=H.f4
 f5:=H.f5
 f6:=H.f6
 ao:=H.ao.below hb
 wy:=fun i b hi=>by obtain⟨l,h1,h2⟩:=H.wy i b hi;exact⟨l,h1,h2.below hb⟩
 yl:=H.yl
 gl:=H.gl
 pe:=H.pe.below (hb.mono H.bs)
 pl:=H.pl
 bs:=vD H.bs hb.size
 tg:=⟨fun k hk=>⟨(H.tg.lo k hk).1,kK (H.tg.lo k hk).2 hb.size⟩,H.tg.t1,H.tg.t2,H.tg.t3,H.tg.t4,H.tg.t5⟩
theorem Eg.cells(H:Eg base s sA sn sk x E w):(w.cell? ⟨x,0,none⟩=some (.pointer (some ⟨E.wb,0,none⟩))/\w.cell? ⟨x,1,none⟩=some (.slice E.pA E.pn E.pc)/\w.cell? ⟨x,4,none⟩=some (.slice (some ⟨E.ab,0,none⟩) E.at_.length E.at_.length)/\w.cell? ⟨x,5,none⟩=some (.slice (some ⟨E.yb,0,none⟩) E.yn E.yc)/\w.cell? ⟨x,6,none⟩=some (O J E.evn))/\w.frozen? ⟨x,1,none⟩=false/\w.frozen? ⟨x,6,none⟩=false:=
 ⟨⟨(H.cs.re 0 (by omega) (by omega)).1.trans (by rw[H.f0]),(H.cs.re 1 (by omega) (by omega)).1.trans (by rw[H.f1]),(H.cs.re 4 (by omega) (by omega)).1.trans (by rw[H.f4]),(H.cs.re 5 (by omega) (by omega)).1.trans (by rw[H.f5]),(H.cs.re 6 (by omega) (by omega)).1.trans (by rw[H.f6])⟩,(H.cs.re 1 (by omega) (by omega)).2.trans (by rw[H.f1]),(H.cs.re 6 (by omega) (by omega)).2.trans (by rw[H.f6])⟩
theorem Eg.box_(H:Eg base s sA sn sk x E w){F':Fr}{pA':iX}{pn' pc':Nat}{P':List Pa}{ev':Int}{w':l6}(hc:Cs w' x F' E.g E.m E.nm E.HL E.l)(hb:But (fun k=>k=x) w w')(hz:w'.heap.size=w.heap.size)
  (f0:F' 0=(some (.pointer (some ⟨E.wb,0,none⟩)),false))(f1:F' 1=(some (.slice pA' pn' pc'),false))(f4:F' 4=(some (.slice (some ⟨E.ab,0,none⟩) E.at_.length E.at_.length),false))(f5:F' 5=(some (.slice (some ⟨E.yb,0,none⟩) E.yn E.yc),false))(f6:F' 6=(some (O J ev'),false))(hp:Rd w base 4 pA' pn' (P'.flatMap Wl))(hpl:P'.length=pn'/\pn'<=pc'):
  Eg base s sA sn sk x {E with F:=F',pA:=pA',pn:=pn',pc:=pc',P:=P',evn:=ev'} w'/\Below base w w':=by
 have h0:E.tag x=2:=H.tg.t2 x (.inl rfl);have hX:∀ k,k=x->E.tag k=2:=fun k hk=>by rw[hk];exact h0
 have hB:=H.rows hb (fun k hk=>by rw[hX k hk];omega);refine⟨⟨H.wd.but_ hb (fun k hk=>Eg.apart hX (by omega) (H.tg.t1 k (.inl hk))) (fun k hk=>Eg.apart hX (by omega) (H.tg.t1 k (.inr hk))),hc,f0,f1,f4,f5,f6,H.ao.but hb (fun k hk=>by cases hk;exact Eg.apart hX (by omega) H.tg.t3),fun i b hi=>?_,H.yl,H.gl,hp.below hB,hpl,vD H.bs hb.size,?_⟩,hB⟩
 ·obtain⟨l,h1,h2⟩:=H.wy i b hi;exact⟨l,h1,Way.but h2 hb (Eg.apart hX (by omega) H.tg.t4) (fun k hk=>Eg.apart hX (by omega) (H.tg.t5 i b hi k hk))⟩
 ·exact⟨fun k hk=>by rw[hz];exact H.tg.lo k hk,H.tg.t1,H.tg.t2,H.tg.t3,H.tg.t4,H.tg.t5⟩
theorem Eg.count(H:Eg base s sA sn sk x E w)(v:Int):Eg base s sA sn sk x {E with F:=(fun k=>if k=6 then(some (O J v),false)else E.F k),evn:=v} (w.setCell ⟨x,6,none⟩ (O J v))/\Below base w (w.setCell ⟨x,6,none⟩ (O J v)):=by
 have h:=Cs.setF H.cs (o:=6) (by omega) (by omega) H.f6 (O J v);exact H.box_ h.1 h.2 (by simp) (by simpa using H.f0) (by simpa using H.f1) (by simpa using H.f4) (by simpa using H.f5) (by simp) H.pe H.pl
theorem Eg.next(H:Eg base s sA sn sk x E w){p:Pa}{P':List Pa}(hP:E.P=p::P'){B:Nat}{off:Nat}(hA:E.pA=some ⟨B,off,none⟩):
  Eg base s sA sn sk x {E with F:=(fun k=>if k=1 then(some (.slice (if E.pc=1 then some ⟨B,off,none⟩else some ⟨B,off+4,none⟩) (E.pn-1) (E.pc-1)),false)else E.F k),pA:=(if E.pc=1 then some ⟨B,off,none⟩else some ⟨B,off+4,none⟩),pn:=E.pn-1,pc:=E.pc-1,P:=P'} (w.setCell ⟨x,1,none⟩ (.slice (if E.pc=1 then some ⟨B,off,none⟩else some ⟨B,off+4,none⟩) (E.pn-1) (E.pc-1)))/\
   Below base w (w.setCell ⟨x,1,none⟩ (.slice (if E.pc=1 then some ⟨B,off,none⟩else some ⟨B,off+4,none⟩) (E.pn-1) (E.pc-1))):=by
 have h:=Cs.setF H.cs (o:=1) (by omega) (by omega) H.f1 (.slice (if E.pc=1 then some ⟨B,off,none⟩else some ⟨B,off+4,none⟩) (E.pn-1) (E.pc-1));have h0:=H.pl;rw[hP]at h0;simp only[Zn]at h0;refine H.box_ h.1 h.2 (by simp) (by simpa using H.f0) (by simp) (by simpa using H.f4) (by simpa using H.f5) (by simpa using H.f6) ?_ ⟨by omega,by omega⟩;have hr:=H.pe;rw[hP,hA]at hr;refine⟨by have:=hr.1;simp only[QN,kC,Zn,KN]at this;omega,fun hn=>?_⟩;obtain⟨b,o,h1,h2,h3⟩:=hr.2 (by omega);cases h1;have h4:¬ E.pc=1:=by omega
 refine⟨B,off+4,by rw[if_neg h4],h2,fun j u hu=>?_⟩;have:=h3 (4+j) u (by simp only[QN];rw[XY (by simp)];simpa using hu);rw[XS];exact this
theorem Eg.through(H:Eg base s sA sn sk x E w)(i:Nat)(b:Int):Eg base s sA sn sk x {E with at_:=E.at_.set i b} (w.setCell ⟨E.ab,i,none⟩ (O J b))/\Below base w (w.setCell ⟨E.ab,i,none⟩ (O J b)):=by
 have hb:But (fun k=>k=E.ab) w (w.setCell ⟨E.ab,i,none⟩ (O J b)):=(But.refl (fun k=>k=E.ab) w).at1 rfl i _;have hX:∀ k,k=E.ab->E.tag k=3:=fun k hk=>by rw[hk];exact H.tg.t3
 have hB:=H.rows hb (fun k hk=>by rw[hX k hk];omega);have hz:(w.setCell ⟨E.ab,i,none⟩ (O J b)).heap.size=w.heap.size:=by simp
 refine⟨⟨H.wd.but_ hb (fun k hk=>Eg.apart hX (by omega) (H.tg.t1 k (.inl hk))) (fun k hk=>Eg.apart hX (by omega) (H.tg.t1 k (.inr hk))),Cs.but H.cs hb (fun k hk=>Eg.apart hX (by omega) (H.tg.t2 k hk)),H.f0,H.f1,?_,H.f5,H.f6,?_,fun j d hi=>?_,H.yl,H.gl,H.pe.below hB,H.pl,vD H.bs hb.size,?_⟩,hB⟩
 ·show E.F 4=(some (.slice _ (E.at_.set i b).length (E.at_.set i b).length),false)
  rw[ye];exact H.f4
 ·show Own _ base _ 1 (fa .i64) (.slice _ (E.at_.set i b).length (E.at_.set i b).length) (E.at_.set i b)
  rw[ye];exact(H.ao.store rfl i b).1
 ·obtain⟨l,h1,h2⟩:=H.wy j d hi;exact⟨l,h1,Way.but h2 hb (Eg.apart hX (by omega) H.tg.t4) (fun k hk=>Eg.apart hX (by omega) (H.tg.t5 j d hi k hk))⟩
 ·exact⟨fun k hk=>by rw[hz];exact H.tg.lo k hk,H.tg.t1,H.tg.t2,H.tg.t3,H.tg.t4,H.tg.t5⟩
theorem Wd.setT{wb h:Nat}{S:HS}{cv tv:Value}{L:List Ca}{trips:List Tr}{T:Int}(H:Wd base s sA sn sk wb h w S cv tv L trips T)(T':Int):WdN base s sA sn sk wb h w S cv tv L (w.setCell ⟨wb,16,none⟩ (O J T')) S cv tv L trips T':=by
 have hb:But (fun k=>k=wb) w (w.setCell ⟨wb,16,none⟩ (O J T')):=(But.refl (fun k=>k=wb) w).at1 rfl 16 _;refine⟨⟨H.bx.set 16 (O J T'),H.wl,H.hl.but hb (fun k hk e=>H.s1 (e▸hk)),H.hb,H.cr.but hb (fun p hp e=>(H.s2 p hp).1 e),fun z hz=>⟨HB.Rds.but (H.ri z hz).1 hb (fun b off e hx=>(H.s4 b ⟨z,hz,off,e⟩).2.2 (.inl hx)),(H.ri z hz).2⟩,H.tr.but hb (fun p hp e=>(H.s3 p hp).1 e),H.s1,H.s2,H.s3,fun k hk=>⟨(H.s4 k hk).1,by simpa using(H.s4 k hk).2.1,(H.s4 k hk).2.2⟩⟩,hb.mono (fun k _ e=>.inl e),fun k _ h=>h,fun k _ h=>h⟩
theorem Eg.tick(H:Eg base s sA sn sk x E w)(T':Int):∃ t',Eg base s sA sn sk x {E with T:=T',tag:=t'} (w.setCell ⟨E.wb,16,none⟩ (O J T'))/\Below base w (w.setCell ⟨E.wb,16,none⟩ (O J T')):=
 ⟨_,H.world (H.wd.setT T')⟩
end
def dz(base:Nat)(s:Sc)(sA:iX)(sn sk x:Nat)(E:Egs)(w:l6)(i:Nat)(b a:Int)(c:Ca)(e:Ending)(w':l6):Prop:=
 e=.returned (.tuple #[])/\Below base w w'/\((b<=a/\Eg base s sA sn sk x E w')\/(a<b/\∃(bu':Bu)(l':List Lg)(t':Nat->Nat),bu'.t=b/\Eg base s sA sn sk x {E with L:=E.L.set i {c with c:=aft c.c (b-a)},at_:=E.at_.set i b,Y:=E.Y.set i bu',G:=E.G.set i l',tag:=t'} w'))
theorem Z9(base:Nat)(s:Sc)(sA:iX)(sn sk x:Nat)(E:Egs)(w:l6)(i:Nat)(b a:Int)(c:Ca)(bu:Bu)(H:Eg base s sA sn sk x E w)(hi:E.L[i]?=some c)(ha:E.at_[i]?=some a)(hy:E.Y[i]?=some bu)(hbu:bu.t=a)(hw:CarW s c.c c.l)(hs:s.ok)(a0:0<=a)(a1:a<=1000000)(b0:0<=b)(b1:b<=1000000)(hab:b<=a):
  Calls prog 141 #[.pointer (some ⟨x,0,none⟩),O J (i:Int),O J b] w (dz base s sA sn sk x E w i b a c):=by
 have h2:i<E.at_.length:=(qd.1 ha).1;obtain⟨⟨-,-,x4,-,-⟩,-,-⟩:=H.cells;obtain⟨a',h0,ac,af⟩:=H.ao.int_at rfl h2;obtain rfl:a'=a:=ve (h0.symm.trans ha);have HH:=ze H;have h1:=ze hab;have i0:(0:Int)<=(i:Int):=by omega
 have i1:(i:Int)<(E.at_.length:Int):=by omega
 have k0:decide (b-a'<=0)=true:=by simp;omega
 clear H hi ha hy hbu hw hs h0 hab
 go_in
 go_wp2_with fail;go_end0;exact⟨rfl,fh,.inl ⟨h1.o,HH.o⟩⟩
theorem yZ(base:Nat)(s:Sc)(sA:iX)(sn sk x:Nat)(E:Egs)(w:l6)(i:Nat)(b a:Int)(c:Ca)(bu:Bu)(H:Eg base s sA sn sk x E w)(hi:E.L[i]?=some c)(ha:E.at_[i]?=some a)(hy:E.Y[i]?=some bu)(hbu:bu.t=a)(hw:CarW s c.c c.l)(hs:s.ok)(a0:0<=a)(a1:a<=1000000)(b0:0<=b)(b1:b<=1000000)(hab:a<b)(hT:c.c.mode≠0->∃ t,CarT s.gap c.c a t/\b<=t):
  Calls prog 141 #[.pointer (some ⟨x,0,none⟩),O J (i:Int),O J b] w (dz base s sA sn sk x E w i b a c):=by
 have hv:i<E.at_.length:=(qd.1 ha).1;have H5:i<E.L.length:=(qd.1 hi).1;have H6:i<E.yn:=by rw[<-H.yl.1];exact(qd.1 hy).1
 have Ha:=H.yl.2;obtain⟨wb,h,S,cv,tv,L,trips,T,F,g,m,nm,HL,l,pA,pn,pc,P,ab,at_,yb,yn,yc,Y,G,evn,tag⟩:=E;obtain⟨gc,ck,hN,-,-,H4,-,-⟩:=H.wd.cr.at_ (by omega);dsimp only at hi ha hy hv H5 H6 Ha hN H4;subst hN;obtain⟨⟨x0,-,x4,x5,-⟩,-,-⟩:=H.cells;obtain⟨a',hJ,ac,-⟩:=H.ao.int_at rfl hv;obtain rfl:a'=a:=ve (hJ.symm.trans ha);dsimp only at x0 x4 x5 ac;have HH:=ze H;have HI:=ze hi;have HA:=ze ha;have HY:=ze hy;have HW:=ze hw;have HS:=ze hs;have hD:=ze hbu;have HT:=ze hT;have hU:=ze hab;have i0:(0:Int)<=(i:Int):=by omega
 have i1:(i:Int)<(at_.length:Int):=by omega
 have i2:(i:Int)<(L.length:Int):=by omega
 have i3:(i:Int)<(yn:Int):=by omega
 have k0:decide (b-a'<=0)=false:=by simp;omega
 have kk0:0<=b-a':=by omega
 have kk1:b-a'<=1000000:=by omega
 have w14:=(H.wd.bx 14 _ rfl).1;dsimp only at w14;have h5:=ze H.wd.cr;obtain⟨r0,-⟩:=h5.o.elem_cell zh rfl hi (show 0<6 by omega) rfl;obtain⟨r1,-⟩:=h5.o.elem_cell zh rfl hi (show 1<6 by omega) rfl;obtain⟨r2,-⟩:=h5.o.elem_cell zh rfl hi (show 2<6 by omega) rfl;obtain⟨r3,-⟩:=h5.o.elem_cell zh rfl hi (show 3<6 by omega) rfl;obtain⟨r4,-⟩:=h5.o.elem_cell zh rfl hi (show 4<6 by omega) rfl;obtain⟨r5,-⟩:=h5.o.elem_cell zh rfl hi (show 5<6 by omega) rfl;have r0:w.cell? ⟨gc,i*6,none⟩=some (O J c.c.pos):=r0;obtain⟨c,A,rn,rk,rl⟩:=c;dsimp only at r0 r1 r2 r3 r4 r5;have p0:=hw.p0;have p1:=hw.p1;have d0:=hw.d0;have d1:=hw.d1;have l0:=hw.l0;have hu:=hs.gap;dsimp only at p0 p1 d0 d1 l0;have q0: -3000<=c.pos:=by omega
 have q1:c.pos<=3000:=by omega
 have q2: -3000<=c.left:=by omega
 have q3:c.left<=3000:=by omega
 clear H hi ha hy hbu hw hs hJ hab hT p0 p1 l0 hu
 go_in
 go_upto_region 3 with(fail);refine zq (w:=w) (fun V=>Bx V w.heap.size (c.lv (.slice A rn rk))/\w.heap.size<V.heap.size) ⟨Bx.new w (c.lv (.slice A rn rk)) 265,by simp⟩ ((Below.refl w.heap.size w).alloc fi _) ?_;rintro V ⟨hq,h1⟩ hM;have HQ:=ze hq;have hV:=ze hM;clear hq hM r0 r1 r2 r3 r4 r5 x0 x4 x5 ac w14;obtain⟨⟨c0,c1,c2,c3,c4,c5⟩,-⟩:=HQ.o.o6
 go_cut [8] (fun v wx=>∃(q8:Nat)(d:Bool),v=.pointer (some ⟨q8,0,none⟩)/\V.heap.size<=q8/\q8<wx.heap.size/\Bx wx q8 [O J c.pos,O J 0,O J (b-a'),.bool d]/\Below V.heap.size V wx)
 case first=>
  have hW:=ze (fun W=>Kc c A rn rk W);have MK:=ze (fun W(hb:Below V.heap.size V W)=>(show W.cell? ⟨w.heap.size,0,none⟩=some (O J c.pos)/\W.cell? ⟨w.heap.size,1,none⟩=some (O J c.dir)/\W.cell? ⟨w.heap.size,2,none⟩=some (O J c.mode)/\W.cell? ⟨w.heap.size,3,none⟩=some (O J c.left)/\W.cell? ⟨w.heap.size,4,none⟩=some (.bool c.wt)/\W.cell? ⟨w.heap.size,5,none⟩=some (.slice A rn rk)/\Below V.heap.size V W from⟨((HQ.o.below hb h1) 0 _ rfl).1,((HQ.o.below hb h1) 1 _ rfl).1,((HQ.o.below hb h1) 2 _ rfl).1,((HQ.o.below hb h1) 3 _ rfl).1,((HQ.o.below hb h1) 4 _ rfl).1,((HQ.o.below hb h1) 5 _ rfl).1,hb⟩))
  go_region_held3 (fun W=>W.cell? ⟨w.heap.size,0,none⟩=some (O J c.pos)/\W.cell? ⟨w.heap.size,1,none⟩=some (O J c.dir)/\W.cell? ⟨w.heap.size,2,none⟩=some (O J c.mode)/\W.cell? ⟨w.heap.size,3,none⟩=some (O J c.left)/\W.cell? ⟨w.heap.size,4,none⟩=some (.bool c.wt)/\W.cell? ⟨w.heap.size,5,none⟩=some (.slice A rn rk)/\Below V.heap.size V W)
   (((refine MK.o _ ?_);(first|(with_reducible exact h2.o)|(with_reducible exact fh.drew)|(go_grown;done)|(go_grown;with_reducible exact h2.o))))
   (first
    |(go_at_call 145;go_split_ands;(with_reducible refine(hW.o _).mono ?_);rintro r wX ⟨⟨d,rfl⟩,hl⟩;(try((first|(have HY:=ze (HY.o.below hl hp.o))|(have HY:=ze (Bx.below ((show Bx (V.drew.alloc (.cells ([O J 0,O J 0,O J 0,.bool false]:iZ).toArray 272)) V.heap.size [O J 0,O J 0,O J 0,.bool false]from Bx.new V.drew [O J 0,O J 0,O J 0,.bool false] 272)) hl (by simp))));(try clear hp);have hp:=ze (HY.o.lt (by simp));(try clear z0 z1 z2 z3 k0 k1 k2 k3);obtain⟨⟨z0,z1,z2,z3⟩,k0,k1,k2,k3⟩:=HY.o.o4));have hC:=ze ((‹Below V.heap.size V _›).trans (hl.mono (‹Below V.heap.size V _›).size));(try clear h2);have h2:=ze hC.o;(try clear hS);have hS:=h2.o.size;clear hC hl))
  ·go_wp2_with fail
   go_meet
   exact⟨wX.heap.size,d,rfl,h2.o.size,by simp,Bx.new wX [O J c.pos,O J 0,O J (b-a'),.bool d] 272,h2.o.alloc hS _⟩
  ·go_wp2_with fail
   go_meet
   exact⟨_,d,rfl,fi,by simpa using hp.o,(((HY.o.set 0 (O J c.pos)).set 1 (O J 0)).set 2 (O J (b-a'))).set 3 (.bool d),(((h2.o.setCell fi _).setCell fi _).setCell fi _).setCell fi _⟩
 case rest=>
 obtain⟨q8,d,rfl,hQ,H8,he,h0⟩:=hcut;obtain⟨V2,hZ⟩:∃ V2,V2=wc:=⟨_,rfl⟩;subst hZ;have hk:=ze he;have hn:=ze h0;have hG:=ze (HQ.o.below h0 h1);have Hk:=h0.size;clear he h0 c0 c1 c2 c3 c4 c5;obtain⟨⟨c0,c1,c2,-,-,-⟩,-⟩:=hG.o.o6;obtain⟨⟨u0,u1,-,-⟩,y0,y1,-,-⟩:=hk.o.o4
 go_upto_if 38 with(fail)
 go_cut [] (fun wx=>∃ P1 D1:Int,-100000<=P1/\P1<=100000/\-1<=D1/\D1<=1/\Bx wx q8 [O J P1,O J D1,O J (b-a'),.bool d]/\Below V.heap.size V wx/\wx.heap.size=V2.heap.size)
 case first=>
  by_cases hm:c.mode=1
  ·have m1:(c.mode==1)=true:=by simpa using hm
   clear hm;go_wp2_with fail;go_region
   all_goals(
    go_wp2_with fail
    go_meet
    exact⟨c.pos+c.dir,c.dir,by omega,by omega,by omega,by omega,(hk.o.set 0 (O J (c.pos+c.dir))).set 1 (O J c.dir),((hn.o.setCell (p:=⟨q8,0,none⟩) hQ _).setCell (p:=⟨q8,1,none⟩) hQ _).drew,by simp⟩)
  ·have m1:(c.mode==1)=false:=by simpa using hm
   clear hm;go_wp2_with fail
   go_meet
   exact⟨c.pos,0,by omega,by omega,by omega,by omega,hk.o,hn.o,rfl⟩
 case rest=>
 obtain⟨P1,D1,P0,P2,D0,D2,he,h0,Hc⟩:=hcut;obtain⟨V3,H0⟩:∃ V3,V3=wc:=⟨_,rfl⟩;subst H0;have Ho:q8<V3.heap.size:=by omega
 have H7:w.heap.size<V3.heap.size:=by omega
 have hA:=ze (show Below w.heap.size w V3 from hV.o.trans (h0.mono (by omega)));have hI:=ze (HQ.o.below h0 h1);have hg:=ze (HH.o.below hA.o);obtain⟨lg,hO,h3⟩:=hg.o.wy i bu HY.o;have hX:=ze hO;have ho:=ze h3;have hc:=ze (fun W(hb:Below V3.heap.size V3 W)=>Jt base yb yn yc Y i bu lg P1 D1 (b-a') d W (h3.below hb) P0 P2 D0 D2 kk0 kk1 (by have:=hD.o;omega));have hd:=ze he;clear he h0 Hc hk hn hG c0 c1 c2 u0 u1 y0 y1 hO h3;obtain⟨⟨u0,u1,u2,u3⟩,-⟩:=hd.o.o4;obtain⟨⟨x0,-,x4,x5,-⟩,-,-⟩:=hg.o.cells;dsimp only at x0 x4 x5;clear x0 x4;go_upto_region 6 with(fail)
 go_cut [] (fun wx=>∃(b':Bu)(l':List Lg),WayP V3 base yb yn yc Y i bu (b-a') wx b' l')
 case first=>
  go_region_with (go_at_call 144;refine(hc.o _ fh.drew).mono ?_;rintro r w5 ⟨rfl,b',l',hP⟩;have HP:=ze hP;clear hP u0 u1 u2 u3 x5)
  all_goals(
   go_wp2_with fail
   go_meet
   exact⟨b',l',WayP.from_ fh.drew HP.o⟩)
 case rest=>
 obtain⟨b',l',hP⟩:=hcut;obtain⟨V4,H1⟩:∃ V4,V4=wc:=⟨_,rfl⟩;subst H1;clear u0 u1 u2 u3 x5 hd hc;have HP:=ze hP;have h6:=ze (hg.o.way HY.o hP);have Hq:=hP.but.size;have hY:=ze (hI.o.but hP.but H7 (fun hx=>by
  rcases hx with hx|hx
  ·have:=(HH.o.tg.lo yb (by have:=HH.o.tg.t4;dsimp only at this⊢;omega)).2;omega
  ·have:=(HH.o.tg.lo w.heap.size (by have:=HH.o.tg.t5 i bu HY.o _ hx;dsimp only at this⊢;omega)).2;omega))
 have hz:=ze (fun W=>KM c A rn rk (b-a') W (by omega) (by omega) (by rcases vp d0 d1 with e|e|e<;>rw[e]<;>omega) (by rcases vp d0 d1 with e|e|e<;>rw[e]<;>omega) (by omega) (by omega));clear hP hg hI hX ho;have hE:=ze (fun W(hb:Below V4.heap.size V4 W)=>h6.o.1.wd.cr.below hb);have H9:w.heap.size<V4.heap.size:=by omega
 obtain⟨⟨x0,-,x4,-,-⟩,-,-⟩:=h6.o.1.cells;have w14:=(h6.o.1.wd.bx 14 _ rfl).1;dsimp only at x0 x4 w14;obtain⟨⟨c0,c1,c2,c3,c4,c5⟩,-⟩:=hY.o.o6;clear x4;go_upto_region 7 with(fail)
 go_cut [] (fun wx=>∃ V5,Below V4.heap.size V4 V5/\wx=Xt V5 gc (i*6) ⟨aft c (b-a'),A,rn,rk,rl⟩)
 case first=>
  go_region_with (go_at_call 184;refine(hz.o _).mono ?_;rintro r w6 ⟨rfl,hL⟩;have hf:=ze (show Below V4.heap.size V4 w6 from(Below.refl V4.heap.size V4).drew.trans hL);clear hL;have x0b:=zf hf.o x0;have w14b:=zf hf.o w14;have h4:=ze (hE.o w6 hf.o);obtain⟨r0,f0⟩:=h4.o.elem_cell zh rfl HI.o (show 0<6 by omega) rfl;obtain⟨r1,f1⟩:=h4.o.elem_cell zh rfl HI.o (show 1<6 by omega) rfl;obtain⟨r2,f2⟩:=h4.o.elem_cell zh rfl HI.o (show 2<6 by omega) rfl;obtain⟨r3,f3⟩:=h4.o.elem_cell zh rfl HI.o (show 3<6 by omega) rfl;obtain⟨r4,f4⟩:=h4.o.elem_cell zh rfl HI.o (show 4<6 by omega) rfl;obtain⟨r5,f5⟩:=h4.o.elem_cell zh rfl HI.o (show 5<6 by omega) rfl;have r0:w6.cell? ⟨gc,i*6,none⟩=some (O J c.pos):=r0;have f0:w6.frozen? ⟨gc,i*6,none⟩=false:=f0)
  all_goals(
   go_wp2_with fail
   go_meet
   exact⟨w6,hf.o,rfl⟩)
 case rest=>
 obtain⟨V5,ht,hR⟩:=hcut;have hF:=ze (h6.o.1.below ht);have hr:=hF.o.world (ky (c':=aft c (b-a')) hF.o.wd rfl HI.o fh);have hB:=ze ht;clear ht x0 w14 c0 c1 c2 c3 c4 c5 hE hz;obtain⟨V6,H2⟩:∃ V6,V6=wc:=⟨_,rfl⟩;subst H2;rw[<-hR]at hr;have hj:=ze hr;clear hr hR;obtain⟨⟨-,-,x4,-,-⟩,-,-⟩:=hj.o.1.cells;obtain⟨a6,-,ac,af⟩:=hj.o.1.ao.int_at rfl hv;dsimp only at x4 ac af;go_wp2_with fail;go_end0;have h9:=hj.o.1.through i b;have H3:=HH.o.bs;have Hj:=hB.o;refine⟨rfl,((((hA.o.mono H3).trans h6.o.2).trans (hB.o.mono (h6.o.1.bs))).trans hj.o.2).trans h9.2,.inr ⟨hU.o,b',l',_,?_,h9.1⟩⟩;have h7:=HP.o.t;have h8:=hD.o;omega
end
section
open Go.RowKit HB
def gr(s:Sc)(v:Vw)(c c':Cr):Prop:=
 ((c.mode=0\/c.mode=1)/\MoveX s v c c')\/
 (c.mode=4/\c'=if c.left=1 then{c with left:=0,mode:=0}else{c with left:=c.left-1})\/
 ((c.mode=2\/c.mode=3)/\c.left≠1/\c'={c with left:=c.left-1})\/
 ((c.mode=2\/c.mode=3)/\c.left=1/\¬ v.R (c.pos/s.gap)/\(v.of (c.pos/s.gap) c.dir=0\/¬ v.U (v.of (c.pos/s.gap) c.dir) (c.pos/s.gap))/\
  c'=if c.wt=true then⟨c.pos,v.of (c.pos/s.gap) c.dir,4,s.cl,false⟩else⟨c.pos,v.of (c.pos/s.gap) c.dir,3,s.dw,true⟩)
inductive Rm (s:Sc) (v:Vw):Cr->Int->Prop
 |mk (c:Cr) (n:Int):(∀N,NextX s v c N->N<=n)->(∀N c',NextX s v c N->gr s v (aft c (N-1)) c'->Rm s v c' (n-N))->Rm s v c n
section
variable{s:Sc}{v:Vw}{c c':Cr}{n m N k:Int}
theorem Rm.o(h:Rm s v c n)(hN:NextX s v c N):N<=n/\∀ c',gr s v (aft c (N-1)) c'->Rm s v c' (n-N):=by cases h with|mk _ _ h1 h2=>exact⟨h1 N hN,fun c' hc=>h2 N c' hN hc⟩
theorem Rm.mk_(h:∀ N,NextX s v c N->N<=n/\∀ c',gr s v (aft c (N-1)) c'->Rm s v c' (n-N)):Rm s v c n:=.mk c n (fun N hN=>(h N hN).1) (fun N c' hN=>(h N hN).2 c')
theorem Rm.mono(h:Rm s v c n):∀{m:Int},n<=m->Rm s v c m:=by
 induction h with
 |mk c n h h2 ih=>exact fun{m} hm=>.mk_ fun N hN=>⟨by have:=h N hN;omega,fun c' hc=>ih N c' hN hc (by omega)⟩
theorem i6(c:Cr)(j k:Int):aft (aft c j) k=aft c (j+k):=by
 rcases Wk (c.mode=2\/c.mode=3\/c.mode=4)with h|h
 ·rw[kX h,kX h,kX (by exact h)];simp only[Cr.mk.injEq,and_true,true_and];omega
 ·rcases Wk (c.mode=1)with h1|h1
  ·rw[xh h1,xh h1,xh (by exact h1)];simp only[Cr.mk.injEq,and_true];rw[iD];omega
  ·have e:∀ k,aft c k=c:=fun k=>by unfold aft;rw[if_neg h,if_neg h1]
   rw[e,e,e]
theorem NextX.aft(h:NextX s v c N)(k0:0<=k)(k1:k<=N-1):NextX s v (aft c k) (N-k):=by
 have hm:=xg c k;refine⟨by omega,fun hd=>?_,fun hd=>?_,fun hd=>?_⟩
 ·rw[hm.1]at hd;rw[kX hd];have:=h.door hd;show N-k=c.left-k;omega
 ·rw[hm.1]at hd;have:=h.idle hd;omega
 ·rw[hm.1]at hd;intro h0;rw[hm.2]at h0;obtain⟨F,e,hx,hn⟩:=h.ride hd h0;rw[xh hd];refine⟨F,?_,hx,fun j F' j0 j1 e'=>hn (k+j) F' (by omega) (by omega) ?_⟩
  ·show c.pos+c.dir*k+c.dir*(N-k-1)=_
   rw[<-e,Int.add_assoc,<-iD];congr 2;omega
  ·rw[<-e',iD];show _=c.pos+c.dir*k+c.dir*j;omega
theorem NextX.back(h:NextX s v c N)(k0:0<=k)(k1:k<=N-1){N':Int}(h':NextX s v (Go.Proofs.YtdeogmbfgkepeaaGreatDoor.aft c k) N'):NextX s v c (N'+k):=by
 have hm:=xg c k;have n1:=h'.n1;refine⟨by omega,fun hd=>?_,fun hd=>?_,fun hd=>?_⟩
 ·have:=h'.door (by rw[hm.1];exact hd);rw[kX hd]at this;have e:N'=c.left-k:=this;omega
 ·have:=h'.idle (by rw[hm.1];exact hd);have:=h.idle hd;omega
 ·intro h0;obtain⟨F,e,hx,hn⟩:=h'.ride (by rw[hm.1];exact hd) (by rw[hm.2];exact h0);rw[xh hd]at e hx hn;obtain⟨F2,-,-,h1⟩:=h.ride hd h0;have e2:c.pos+c.dir*k+c.dir*(N'-1)=F*s.gap:=e;refine⟨F,?_,hx,fun j F' j0 j1 e'=>?_⟩
  ·rw[<-e2,Int.add_assoc,<-iD];congr 2;omega
  ·rcases ix j k with hj|hj
   ·exact h1 j F' j0 (by omega) e'
   ·refine hn (j-k) F' (by omega) (by omega) ?_
    show c.pos+c.dir*k+c.dir*(j-k)=_
    rw[<-e',Int.add_assoc,<-iD];congr 2;omega
theorem Rm.aft(h:Rm s v c n)(hN:NextX s v c N)(k0:0<=k)(k1:k<=N-1):Rm s v (aft c k) (n-k):=by
 refine .mk_ fun N' h0=>?_
 have hb:=hN.back k0 k1 h0;obtain⟨h1,h2⟩:=h.o hb;refine⟨by omega,fun c' hc=>?_⟩;rw[i6]at hc;have:=h2 c' (by rw[show N'+k-1=k+(N'-1)from by omega];exact hc);rw[show n-k-N'=n-(N'+k)from by omega];exact this
end
def Vw.just(s:Sc)(v:Vw)(c:Cr):Prop:=v.R (c.pos/s.gap)\/(v.of (c.pos/s.gap) c.dir≠0/\v.U (v.of (c.pos/s.gap) c.dir) (c.pos/s.gap))
section
variable{s:Sc}{v:Vw}{c c':Cr}{n m N k f dir:Int}
theorem gD(hm:c.mode=2\/c.mode=3)(hj:v.just s c)(hn:c.left<=n):Rm s v c n:=by
 refine .mk_ fun N hN=>?_
 have e:=hN.door (by omega);refine⟨by omega,fun c' hc=>?_⟩;rw[kX (by omega)]at hc;exfalso;rcases hc with⟨h,-⟩|⟨h,-⟩|⟨-,h,-⟩|⟨-,-,h1,h2,-⟩
 ·have h:c.mode=0\/c.mode=1:=h;omega
 ·have h:c.mode=4:=h;omega
 ·have h:c.left-(N-1)≠1:=h;omega
 ·rcases hj with h|⟨h3,h4⟩
  ·exact h1 h
  ·rcases h2 with h2|h2
   ·exact h3 h2
   ·exact h2 h4
theorem gT{P:Int->Prop}{d:Int}(hd:d=1\/d=-1):∀(m:Nat){w:Nat},w<128->P w->(if d=1 then 127-w else w)<=m->∃ w':Nat,w'<128/\P w'/\0<=((w':Int)-w)*d/\¬ On P w' d
 |m,w,hw,hp,hm=>by
  rcases Wk (On P w d)with⟨w2,h1,h2,h3⟩|h
  ·cases m with
   |zero=>rcases hd with rfl|rfl<;>simp at hm<;>omega
   |succ m=>
    obtain⟨w',a,b,e,f⟩:=gT (P:=P) hd m h1 h2 (by rcases hd with rfl|rfl<;>simp at hm⊢<;>omega);exact⟨w',a,b,by rcases hd with rfl|rfl<;>omega,f⟩
  ·exact⟨w,hw,hp,by rcases hd with rfl|rfl<;>omega,h⟩
theorem gk(g0:1<=s.gap)(o0:1<=s.opn)(hv:v.ok s)(hm:c.mode=1)(hd:c.dir=1\/c.dir=-1)(p0:0<=c.pos)(p1:c.pos<=(s.fl-1)*s.gap)
  (hw:∃ w:Nat,w<128/\v.W w/\0<=((w:Int)*s.gap-c.pos)*c.dir)(hn:(s.fl-1)*s.gap+1+s.opn<=n):Rm s v c n:=by
 obtain⟨w1,hi,h9,h6⟩:=hw;obtain⟨w,hj,hW,he,h4⟩:=gT (P:=v.W) hd 127 hi h9 (by split<;>omega);have hp:=hv w hW;have hk:0<=(w:Int)*s.gap:=JE (by omega) (by omega);have hl:(w:Int)*s.gap<=(s.fl-1)*s.gap:=xB (by omega) (by omega);have ha:0<=((w:Int)*s.gap-c.pos)*c.dir:=by
  rcases hd with e|e<;>rw[e]at he h6⊢
  ·have:(w1:Int)*s.gap<=(w:Int)*s.gap:=xB (by omega) (by omega);omega
  ·have:(w:Int)*s.gap<=(w1:Int)*s.gap:=xB (by omega) (by omega);omega
 refine .mk_ fun N hN=>?_
 obtain⟨F,e,hx,hg⟩:=hN.ride hm (by omega);have n1:=hN.n1;have h8:v.stop w c.dir:=by
  have h0:c.dir≠0:=by omega
  rcases hW with h|h|h
  ·exact .inl h
  ·rcases hd with e|e<;>rw[e]at h4⊢
   ·exact .inr (.inr ⟨by omega,.inl h⟩)
   ·exact .inr (.inr ⟨by omega,.inr ⟨h,h4⟩⟩)
  ·rcases hd with e|e<;>rw[e]at h4⊢
   ·exact .inr (.inr ⟨by omega,.inr ⟨h,h4⟩⟩)
   ·exact .inr (.inr ⟨by omega,.inl h⟩)
 have h7:N-1<=((w:Int)*s.gap-c.pos)*c.dir:=by
  false_or_by_contra
  rename_i hc;refine hg (((w:Int)*s.gap-c.pos)*c.dir) w ha (by omega) ?_ (.inl h8);rcases hd with e|e<;>rw[e]<;>omega
 have ho:N-1<=(s.fl-1)*s.gap:=by rcases hd with e|e<;>rw[e]at h7<;>omega
 refine⟨by have:=hN.n1;omega,fun c' hc=>?_⟩;have hq:0<=(c.pos+c.dir*(N-1))/\0<=((w:Int)*s.gap-(c.pos+c.dir*(N-1)))*c.dir:=by
  rcases hd with e|e<;>rw[e]at h7⊢<;>omega
 rw[xh hm]at hc;have hF:v.stop F c.dir:=by
  rcases hx with h|h
  ·exact h
  ·rcases Wk ((w:Int)=F)with h1|h1
   ·rw[<-h1];exact h8
   ·refine absurd (Vw.of_go (by omega) (.inr ⟨w,hj,hW,?_⟩)) h;rw[e]at hq;rcases hd with e|e<;>rw[e]at hq⊢
    ·rcases ix (w:Int) F with h2|h2
     ·have:(w:Int)*s.gap+s.gap<=F*s.gap:=by rw[show(w:Int)*s.gap+s.gap=(w+1)*s.gap from by rw[Vo];omega];exact xB (by omega) (by omega)
      omega
     ·omega
    ·rcases ix F (w:Int)with h2|h2
     ·have:F*s.gap+s.gap<=(w:Int)*s.gap:=by rw[show F*s.gap+s.gap=(F+1)*s.gap from by rw[Vo];omega];exact xB (by omega) (by omega)
      omega
     ·omega
 have h5:(c.pos+c.dir*(N-1))/s.gap=F:=by rw[e];exact Int.mul_ediv_cancel _ (by omega)
 have hf:(c.pos+c.dir*(N-1))%s.gap=0:=by rw[e];exact Int.mul_emod_left _ _
 rcases hc with⟨-,hc⟩|⟨h,-⟩|⟨h,-⟩|⟨h,-⟩
 ·have e2:=hc.stop hf (by rw[h5];exact hF);simp only[h5]at e2;rw[e2];refine gD (.inl rfl) ?_ (by show s.opn<=n-N;omega)
  show v.R ((c.pos+c.dir*(N-1))/s.gap)\/_
  simp only[h5];rcases Vw.stop_just (by omega) hF with h|⟨h1,h2,h3⟩
  ·exact .inl h
  ·right;rw[h2];exact⟨h1,h3⟩
 ·have h:c.mode=4:=h;omega
 ·have h:c.mode=2\/c.mode=3:=h;omega
 ·have h:c.mode=2\/c.mode=3:=h;omega
end
structure CarX(s:Sc)(c:Cr):Prop where
 p0:0<=c.pos
 p1:c.pos<=(s.fl-1)*s.gap
 at_:c.mode≠1->c.pos%s.gap=0
 dr:c.mode=1->c.dir=1\/c.dir=-1
 d:c.dir=0\/c.dir=1\/c.dir=-1
 m:0<=c.mode/\c.mode<=4
 l2:c.mode=2->c.left<=s.opn
 l3:c.mode=3->c.left<=s.tr\/c.left<=s.dw
 l4:c.mode=4->c.left<=s.cl
def qt(s:Sc):Int:=2*s.opn+max s.tr s.dw+s.dw+s.cl+(s.fl-1)*s.gap+s.gap+4
section
variable{s:Sc}{v:Vw}{c c':Cr}{n m N k f dir:Int}
theorem iq{F w g d:Int}(g0:1<=g)(hd:d=1\/d=-1)(h:0<(w-F)*d):0<=(w*g-(F*g+d))*d:=by
 rcases hd with rfl|rfl
 ·have:(F+1)*g<=w*g:=xB (by omega) (by omega);rw[Vo]at this;omega
 ·have:(w+1)*g<=F*g:=xB (by omega) (by omega);rw[Vo]at this;omega
theorem gE{F:Int}(g0:1<=s.gap)(h0:0<=F)(h1:F<s.fl):0<=F*s.gap/\F*s.gap<=(s.fl-1)*s.gap:=
 ⟨JE h0 (by omega),xB (by omega) (by omega)⟩
theorem gm(g0:1<=s.gap)(hv:v.ok s){F d:Int}(hd:d=1\/d=-1)(hF0:0<=F*s.gap)(hF1:F*s.gap<=(s.fl-1)*s.gap)(h:On v.W F d):
  0<=F*s.gap+d/\F*s.gap+d<=(s.fl-1)*s.gap/\∃ w:Nat,w<128/\v.W w/\0<=((w:Int)*s.gap-(F*s.gap+d))*d:=by
 obtain⟨w,h1,h2,h3⟩:=h;have e:=iq g0 hd h3;have hw:=gE g0 (hv w h2).1 (hv w h2).2;refine⟨?_,?_,w,h1,h2,e⟩<;>rcases hd with rfl|rfl<;>omega
theorem gz(hd:dir=0\/dir=1\/dir=-1)(h:v.of f dir≠0):v.of f dir=1\/v.of f dir=-1:=by have:=v.of_rng f hd;omega
theorem fM(hs:s.ok)(hv:v.ok s)(hw:∃ f,v.W f):∃ n:Nat,n<128/\v.W n:=by
 obtain⟨f,hf⟩:=hw;have h:=hv f hf;have:=hs.fl;obtain⟨n,rfl⟩:=QM h.1;exact⟨n,by omega,hf⟩
theorem gF(hs:s.ok)(hv:v.ok s)(hw:∃ f,v.W f)(hm:c.mode=0)(hx:CarX s c)(hn:(s.fl-1)*s.gap+s.opn+2<=n):Rm s v c n:=by
 have g0:=hs.gap.1;have o0:=hs.opn.1;have ht:0<=(s.fl-1)*s.gap:=JE (by have:=hs.fl;omega) (by omega);refine .mk_ fun N hN=>?_
 have e:=hN.idle hm;refine⟨by omega,fun c' hc=>?_⟩;rw[Z8 hm]at hc;have h4:=hx.at_ (by omega);rcases hc with⟨-,hc⟩|⟨h,-⟩|⟨h,-⟩|⟨h,-⟩
 ·rcases Wk (v.stop (c.pos/s.gap) c.dir)with h0|h0
  ·rw[hc.stop h4 h0];refine gD (.inl rfl) ?_ (by show s.opn<=n-N;omega)
   show v.R (c.pos/s.gap)\/_
   rcases Vw.stop_just hx.d h0 with h|⟨h1,h2,h3⟩
   ·exact .inl h
   ·right
    show v.of (c.pos/s.gap) (v.of (c.pos/s.gap) c.dir)≠0/\v.U (v.of (c.pos/s.gap) (v.of (c.pos/s.gap) c.dir)) (c.pos/s.gap)
    rw[h2];exact⟨h1,h3⟩
  ·obtain⟨h1,h2⟩:=Vw.on_of hx.d (fM hs hv hw) h0;rw[hc.on h4 h0 h1];have hd:=gz hx.d h1;have hp:c.pos/s.gap*s.gap=c.pos:=Int.ediv_mul_cancel (Int.dvd_of_emod_eq_zero h4);obtain⟨q0,q1,q2⟩:=gm g0 hv hd (by rw[hp];exact hx.p0) (by rw[hp];exact hx.p1) h2;rw[hp]at q0 q1 q2;exact gk g0 o0 hv rfl hd q0 q1 q2 (by show _<=n-N;omega)
 ·omega
 ·omega
 ·omega
theorem i7(hs:s.ok)(hv:v.ok s)(hw:∃ f,v.W f)(hm:c.mode=1)(hx:CarX s c)(hn:(s.fl-1)*s.gap+s.opn+s.gap+1<=n):Rm s v c n:=by
 have g0:=hs.gap.1;have o0:=hs.opn.1;have hd:=hx.dr hm;rcases Wk (∃w:Nat,w<128/\v.W w/\0<=((w:Int)*s.gap-c.pos)*c.dir)with hh|hh
 ·exact gk g0 o0 hv hm hd hx.p0 hx.p1 hh (by omega)
 ·have hi:∀ w:Int,v.W w->((w:Int)*s.gap-c.pos)*c.dir<0:=fun w hW=>by
   false_or_by_contra
   rename_i hc;have h:=hv w hW;have:=hs.fl;obtain⟨n,rfl⟩:=QM h.1;exact hh ⟨n,by omega,hW,by omega⟩
  refine .mk_ fun N hN=>?_
  obtain⟨F,e,hl,hg⟩:=hN.ride hm (by omega);have n1:=hN.n1;have h4:∀ F' k,0<=k->c.pos+c.dir*k=F'*s.gap->¬ v.stop F' c.dir/\¬ v.Go F' c.dir:=fun F' k k0 hk=>by
   have hW:∀ w:Int,v.W w->0<(F'-w)*c.dir:=fun w hW=>by
    have h1:=hi w hW;rcases hd with e|e<;>rw[e]at h1 hk⊢
    ·rcases ix w F' with h2|h2
     ·omega
     ·have:F'*s.gap<=w*s.gap:=xB h2 (by omega);omega
    ·rcases ix F' w with h2|h2
     ·omega
     ·have:w*s.gap<=F'*s.gap:=xB h2 (by omega);omega
   have hF:¬ v.W F':=fun h=>by have:=hW F' h;simp at this
   have hU:∀ d,(d=1\/d=-1)->¬ v.U d F':=fun d hd h=>hF (by rcases hd with rfl|rfl;exact .inr (.inl h);exact .inr (.inr h))
   refine⟨fun h=>?_,fun h=>?_⟩
   ·rcases h with h|⟨h0,-⟩|⟨-,h⟩
    ·exact hF (.inl h)
    ·omega
    ·rcases h with h|⟨h,-⟩
     ·exact hU _ hd h
     ·exact hU _ (by omega) h
   ·rcases h with h|⟨w,-,h1,h2⟩
    ·exact hU _ hd h
    ·have:=hW w h1;rcases hd with e|e<;>rw[e]at h2 this<;>omega
  have hk:∃ k F',0<=k/\k<s.gap/\c.pos+c.dir*k=F'*s.gap:=by
   have h1:=Int.mul_ediv_add_emod c.pos s.gap;have h2:=iB c.pos (show s.gap≠0 by omega);have h3:=du c.pos (show 0<s.gap by omega);rw[cX]at h1;rcases hd with e|e
   ·rcases Wk (c.pos%s.gap=0)with h0|h0
    ·exact⟨0,c.pos/s.gap,by omega,by omega,by rw[e];omega⟩
    ·exact⟨s.gap-c.pos%s.gap,c.pos/s.gap+1,by omega,by omega,by rw[e,Vo];omega⟩
   ·exact⟨c.pos%s.gap,c.pos/s.gap,h2,h3,by rw[e];omega⟩
  obtain⟨k,F',k0,k1,h8⟩:=hk;have hj:N-1<=k:=by
   false_or_by_contra
   rename_i hc;exact hg k F' k0 (by omega) h8 (.inr fun h=>by
    rcases v.of_or F' c.dir with h2|h2
    ·omega
    ·rw[h]at h2;exact(h4 F' k k0 h8).2 h2)
  refine⟨by have ht:0<=(s.fl-1)*s.gap:=JE (by have:=hs.fl;omega) (by omega);omega,fun c' hc=>?_⟩;obtain⟨he,h7⟩:=h4 F (N-1) (by omega) e;rw[xh hm]at hc;have h6:(c.pos+c.dir*(N-1))/s.gap=F:=by rw[e];exact Int.mul_ediv_cancel _ (by omega)
  have hf:(c.pos+c.dir*(N-1))%s.gap=0:=by rw[e];exact Int.mul_emod_left _ _
  obtain⟨h5,h9⟩:=Vw.on_of hx.d (fM hs hv hw) he;have ha:v.of F c.dir=-c.dir:=by
   have:=v.of_rng F hx.d;rcases v.of_or F c.dir with h2|h2
   ·exact absurd h2 h5
   ·rcases hd with e|e<;>rw[e]at this h2 h7 h5⊢<;>rcases this with h|h|h<;>rw[h]at h2 h5⊢<;>first|rfl|exact absurd h2 h7|exact absurd rfl h5
  rcases hc with⟨-,hc⟩|⟨h,-⟩|⟨h,-⟩|⟨h,-⟩
  ·have e2:=hc.on hf (by simp only[h6];exact he) (by simp only[h6];exact h5);simp only[h6,ha]at e2;rw[e2];rw[ha]at h9;have hq:0<=F*s.gap/\F*s.gap<=(s.fl-1)*s.gap:=by
    have p0:=hx.p0;have p1:=hx.p1;have h0:(-1)*s.gap<F*s.gap:=by rcases hd with e2|e2<;>rw[e2]at e<;>omega
    have h1:F*s.gap<s.fl*s.gap:=by rw[Int.sub_mul]at p1;rcases hd with e2|e2<;>rw[e2]at e<;>omega
    exact gE g0 (by have:=Wb h0 (by omega);omega) (Wb h1 (by omega))
   obtain⟨q0,q1,q2⟩:=gm g0 hv (by omega) hq.1 hq.2 h9;rw[e];exact gk g0 o0 hv rfl (by show -c.dir=1\/ -c.dir=-1;omega) q0 q1 q2 (by show _<=n-N;omega)
  ·have h:c.mode=4:=h;omega
  ·have h:c.mode=2\/c.mode=3:=h;omega
  ·have h:c.mode=2\/c.mode=3:=h;omega
theorem gt(hs:s.ok)(hv:v.ok s)(hw:∃ f,v.W f)(hm:c.mode=4)(hx:CarX s c)(hn:c.left+(s.fl-1)*s.gap+s.opn+2<=n):Rm s v c n:=by
 have ht:0<=(s.fl-1)*s.gap:=JE (by have:=hs.fl;omega) (by have:=hs.gap;omega);have o0:=hs.opn.1;refine .mk_ fun N hN=>?_
 have e:=hN.door (by omega);refine⟨by omega,fun c' hc=>?_⟩;rw[kX (by omega)]at hc;rcases hc with⟨h,-⟩|⟨-,h⟩|⟨h,-⟩|⟨h,-⟩
 ·have h:c.mode=0\/c.mode=1:=h;omega
 ·rw[if_pos (by show c.left-(N-1)=1;omega)]at h;rw[h];exact gF hs hv hw rfl ⟨hx.p0,hx.p1,fun _=>hx.at_ (by omega),fun h=>absurd h (by show¬(0:Int)=1;omega),hx.d,by show(0:Int)<=0/\(0:Int)<=4;omega,fun h=>absurd h (by show¬(0:Int)=2;omega),fun h=>absurd h (by show¬(0:Int)=3;omega),fun h=>absurd h (by show¬(0:Int)=4;omega)⟩ (by omega)
 ·have h:c.mode=2\/c.mode=3:=h;omega
 ·have h:c.mode=2\/c.mode=3:=h;omega
theorem gu(hs:s.ok)(hv:v.ok s)(hw:∃ f,v.W f)(hm:c.mode=2\/c.mode=3)(hx:CarX s c)(hwt:c.wt=true)(hn:c.left+s.cl+(s.fl-1)*s.gap+s.opn+2<=n):Rm s v c n:=by
 have ht:0<=(s.fl-1)*s.gap:=JE (by have:=hs.fl;omega) (by have:=hs.gap;omega);have o0:=hs.opn.1;have c0:=hs.cl.1;refine .mk_ fun N hN=>?_
 have e:=hN.door (by omega);refine⟨by omega,fun c' hc=>?_⟩;rw[kX (by omega)]at hc;rcases hc with⟨h,-⟩|⟨h,-⟩|⟨-,h,-⟩|⟨-,-,-,-,h⟩
 ·have h:c.mode=0\/c.mode=1:=h;omega
 ·have h:c.mode=4:=h;omega
 ·have h:c.left-(N-1)≠1:=h;omega
 ·rw[if_pos (by exact hwt)]at h;rw[h];exact gt hs hv hw rfl ⟨hx.p0,hx.p1,fun _=>hx.at_ (by omega),fun h=>absurd h (by show¬(4:Int)=1;omega),v.of_rng _ hx.d,by show(0:Int)<=4/\(4:Int)<=4;omega,fun h=>absurd h (by show¬(4:Int)=2;omega),fun h=>absurd h (by show¬(4:Int)=3;omega),fun _=>Vu _⟩ (by show s.cl+_+_+_<=_;omega)
theorem gG(hs:s.ok)(hv:v.ok s)(hw:∃ f,v.W f)(hm:c.mode=2\/c.mode=3)(hx:CarX s c)(hn:c.left+s.dw+s.cl+(s.fl-1)*s.gap+s.opn+2<=n):Rm s v c n:=by
 have ht:0<=(s.fl-1)*s.gap:=JE (by have:=hs.fl;omega) (by have:=hs.gap;omega);have o0:=hs.opn.1;have c0:=hs.cl.1;have d0:=hs.dw.1;rcases yd c.wt with h0|h0
 ·exact gu hs hv hw hm hx h0 (by omega)
 refine .mk_ fun N hN=>?_
 have e:=hN.door (by omega);refine⟨by omega,fun c' hc=>?_⟩;rw[kX (by omega)]at hc;rcases hc with⟨h,-⟩|⟨h,-⟩|⟨-,h,-⟩|⟨-,-,-,-,h⟩
 ·have h:c.mode=0\/c.mode=1:=h;omega
 ·have h:c.mode=4:=h;omega
 ·have h:c.left-(N-1)≠1:=h;omega
 ·rw[if_neg (by show¬c.wt=true;rw[h0];simp)]at h;rw[h];exact gu hs hv hw (.inr rfl) ⟨hx.p0,hx.p1,fun _=>hx.at_ (by omega),fun h=>absurd h (by show¬(3:Int)=1;omega),v.of_rng _ hx.d,by show(0:Int)<=3/\(3:Int)<=4;omega,fun h=>absurd h (by show¬(3:Int)=2;omega),fun _=>.inr (Vu _),fun h=>absurd h (by show¬(3:Int)=4;omega)⟩ rfl (by show s.dw+_+_+_+_<=_;omega)
theorem ig(hs:s.ok)(hv:v.ok s)(hw:∃ f,v.W f)(hx:CarX s c)(hn:qt s<=n):Rm s v c n:=by
 have ht:0<=(s.fl-1)*s.gap:=JE (by have:=hs.fl;omega) (by have:=hs.gap;omega);have o0:=hs.opn.1;have c0:=hs.cl.1;have d0:=hs.dw.1;have t0:=hs.tr.1;have g0:=hs.gap.1;unfold qt at hn;have hm:c.mode=0\/c.mode=1\/c.mode=2\/c.mode=3\/c.mode=4:=by have:=hx.m;omega
 rcases hm with hm|hm|hm|hm|hm
 ·exact gF hs hv hw hm hx (by omega)
 ·exact i7 hs hv hw hm hx (by omega)
 ·have:=hx.l2 hm;exact gG hs hv hw (.inl hm) hx (by omega)
 ·have:=hx.l3 hm;exact gG hs hv hw (.inr hm) hx (by omega)
 ·have:=hx.l4 hm;exact gt hs hv hw hm hx (by omega)
end
end
section
open Go.RowKit HB Go.Maps CalP
theorem XA(base:Nat)(s:Sc)(hs:s.ok)(sA:iX)(sn sk wb h:Nat)(w:l6)(S:HS)(g n ck:Nat)(tv:Value)(L:List Ca)(trips:List Tr)(T:Int)(i:Nat)(x:Ca)
  (H:Wd base s sA sn sk wb h w S (.slice (some ⟨g,0,none⟩) n ck) tv L trips T)(hn:L.length=n)(hnk:n<=ck)(hn1:n<=1000)(hi:L[i]?=some x)(hok:x.ok s.gap)(hm:x.c.mode=4)(hl0:1<=x.c.left)(hl1:x.c.left<=64):
  Calls prog 143 #[.pointer (some ⟨wb,0,none⟩),O J (i:Int)] w (Uw base s sA sn sk wb h w S (.slice (some ⟨g,0,none⟩) n ck) tv L trips T i x):=by
 have h3:=ze H;have HI:=ze hi;have HN:=ze hn;have hj:i<n:=by have:=(qd.1 hi).1;omega
 have hf:=ze (H.ri x (jx hi)).1;have h5:=ze H.bx;have h7:=H.bx.lt (by simp);have hc:=(H.cr.lt (k:=g) rfl).2;have p0:=hok.p0;have p1:=hok.p1;have d0:=hok.d0;have d1:=hok.d1;have n1:=hok.n1;have b0:=H.cr.elem_cell zh hn hi (show 0<6 by omega) rfl;have b1:=(H.cr.elem_cell zh hn hi (show 1<6 by omega) rfl).1;have b2:=(H.cr.elem_cell zh hn hi (show 2<6 by omega) rfl).1;have b3:=(H.cr.elem_cell zh hn hi (show 3<6 by omega) rfl).1;have b4:=(H.cr.elem_cell zh hn hi (show 4<6 by omega) rfl).1;have b5:=(H.cr.elem_cell zh hn hi (show 5<6 by omega) rfl).1;have b0:w.cell? ⟨g,i*6,none⟩=some (O J x.c.pos):=b0.1;have i0:(0:Int)<=(i:Int):=by omega
 have i1:(i:Int)<(n:Int):=by omega
 obtain⟨c,A,rn,rk,l⟩:=x;obtain⟨⟨x0,x1,x2,x3,x4,x5,x6,x7,x8,x9,x10,x11,x12,x13,x14,x15,x16⟩,-⟩:=H.bx.o17;clear x0 x1 x2 x3 x4 x5 x6 x7 x8 x9 x10 x11 x12 x13 x15 x16;have hd:i<=n:=by omega
 have hg:=hc;simp only at hm hl0 hl1 p0 p1 d0 d1 n1 b0 b1 b2 b3 b4 b5;clear H hi hn hok;have m0:(c.mode==0)=false:=by(simp;omega)
 have m1:(c.mode==1)=false:=by(simp;omega)
 have m4:(c.mode==4)=true:=by simpa using hm
 have HM:=ze hm;clear hm
 go_in
 go_upto_region 2 with(fail);refine zq (w:=w) (fun V=>Bx V w.heap.size (c.lv (.slice A rn rk))/\w.heap.size<V.heap.size) ⟨Bx.new w (c.lv (.slice A rn rk)) 265,by simp⟩ ((Below.refl w.heap.size w).alloc fi _) ?_;rintro V ⟨hq,h8⟩ h6;have HQ:=ze hq;have h4:=ze h6;obtain⟨⟨c0,c1,c2,c3,c4,c5⟩,e0,e1,e2,e3,e4,e5⟩:=HQ.o.o6;clear hq h6 b0 b1 b2 b3 b4 b5 x14;clear e0 e1 e4 e5;by_cases hl:c.left=1
 ·have l1:(c.left-1==0)=true:=by simp;omega
  have HL:=ze hl;have ha:=ze (show c.left-1=0 by omega);clear hl;go_wp2_with fail;refine qj (w:=w) (W:=(V.setCell ⟨w.heap.size,3,none⟩ (O J (c.left-1))).setCell ⟨w.heap.size,2,none⟩ (O J 0)) (fun V3=>Bx V3 w.heap.size (Cr.lv ⟨c.pos,c.dir,0,c.left-1,c.wt⟩ (.slice A rn rk))/\w.heap.size<V3.heap.size) ⟨(HQ.o.set 3 _).set 2 _,by simpa using h8⟩ ((h4.o.setCell (p:=⟨w.heap.size,3,none⟩) fi _).setCell (p:=⟨w.heap.size,2,none⟩) fi _) ?_;clear c0 c1 c2 c3 c4 c5 e2 e3;rintro V3 ⟨h2,he⟩ h1;have h9:=ze h1;have HF:=ze (ky (c':=⟨c.pos,c.dir,0,c.left-1,c.wt⟩) h3.o HN.o HI.o h1);obtain⟨⟨y0,y1,y2,y3,y4,y5⟩,-⟩:=h2.o6;obtain⟨⟨x0,x1,x2,x3,x4,x5,x6,x7,x8,x9,x10,x11,x12,x13,x14,x15,x16⟩,-⟩:=(h5.o.below h1 h7).o17;have h0:=ze (h3.o.cr.below h1);obtain⟨r0,f0⟩:=h0.o.elem_cell zh HN.o HI.o (show 0<6 by omega) rfl;obtain⟨r1,f1⟩:=h0.o.elem_cell zh HN.o HI.o (show 1<6 by omega) rfl;obtain⟨r2,f2⟩:=h0.o.elem_cell zh HN.o HI.o (show 2<6 by omega) rfl;obtain⟨r3,f3⟩:=h0.o.elem_cell zh HN.o HI.o (show 3<6 by omega) rfl;obtain⟨r4,f4⟩:=h0.o.elem_cell zh HN.o HI.o (show 4<6 by omega) rfl;obtain⟨r5,f5⟩:=h0.o.elem_cell zh HN.o HI.o (show 5<6 by omega) rfl;have r0:V3.cell? ⟨g,i*6,none⟩=some (O J c.pos):=r0;have f0:V3.frozen? ⟨g,i*6,none⟩=false:=f0;clear x0 x1 x2 x3 x4 x5 x6 x7 x8 x9 x10 x11 x12 x13 x15 x16 h2 h1;go_wp2_with fail;go_region
  all_goals(
   go_wp2_with fail;go_ret;exact⟨false,⟨⟨c.pos,c.dir,0,c.left-1,c.wt⟩,A,rn,rk,l⟩,S,trips,rfl,HF.o.below fh.drew,by omega,by omega,⟨fun h=>h,fun h=>by(have h:c.mode=0\/c.mode=1:=h);have:=HM.o;omega,fun h=>by(have h:c.mode=2\/c.mode=3:=h);have:=HM.o;omega,fun _=>⟨rfl,rfl⟩⟩,.inr (.inl ⟨HM.o,by rw[if_pos HL.o,ha.o],rfl,rfl,rfl⟩)⟩)
 ·have l1:(c.left-1==0)=false:=by simp;omega
  have HL:=ze hl;clear hl;go_wp2_with fail;refine qj (w:=w) (W:=V.setCell ⟨w.heap.size,3,none⟩ (O J (c.left-1))) (fun V3=>Bx V3 w.heap.size (Cr.lv ⟨c.pos,c.dir,c.mode,c.left-1,c.wt⟩ (.slice A rn rk))/\w.heap.size<V3.heap.size) ⟨HQ.o.set 3 _,by simpa using h8⟩ (h4.o.setCell (p:=⟨w.heap.size,3,none⟩) fi _) ?_;clear c0 c1 c2 c3 c4 c5 e2 e3;rintro V3 ⟨h2,he⟩ h1;have h9:=ze h1;have HF:=ze (ky (c':=⟨c.pos,c.dir,c.mode,c.left-1,c.wt⟩) h3.o HN.o HI.o h1);obtain⟨⟨y0,y1,y2,y3,y4,y5⟩,-⟩:=h2.o6;obtain⟨⟨x0,x1,x2,x3,x4,x5,x6,x7,x8,x9,x10,x11,x12,x13,x14,x15,x16⟩,-⟩:=(h5.o.below h1 h7).o17;have h0:=ze (h3.o.cr.below h1);obtain⟨r0,f0⟩:=h0.o.elem_cell zh HN.o HI.o (show 0<6 by omega) rfl;obtain⟨r1,f1⟩:=h0.o.elem_cell zh HN.o HI.o (show 1<6 by omega) rfl;obtain⟨r2,f2⟩:=h0.o.elem_cell zh HN.o HI.o (show 2<6 by omega) rfl;obtain⟨r3,f3⟩:=h0.o.elem_cell zh HN.o HI.o (show 3<6 by omega) rfl;obtain⟨r4,f4⟩:=h0.o.elem_cell zh HN.o HI.o (show 4<6 by omega) rfl;obtain⟨r5,f5⟩:=h0.o.elem_cell zh HN.o HI.o (show 5<6 by omega) rfl;have r0:V3.cell? ⟨g,i*6,none⟩=some (O J c.pos):=r0;have f0:V3.frozen? ⟨g,i*6,none⟩=false:=f0;clear x0 x1 x2 x3 x4 x5 x6 x7 x8 x9 x10 x11 x12 x13 x15 x16 h2 h1;go_wp2_with fail;go_region
  all_goals(
   go_wp2_with fail;go_ret;exact⟨false,⟨⟨c.pos,c.dir,c.mode,c.left-1,c.wt⟩,A,rn,rk,l⟩,S,trips,rfl,HF.o.below fh.drew,by omega,by omega,⟨fun h=>h,fun h=>by(have h:c.mode=0\/c.mode=1:=h);have:=HM.o;omega,fun h=>by(have h:c.mode=2\/c.mode=3:=h);have:=HM.o;omega,fun _=>⟨rfl,rfl⟩⟩,.inr (.inl ⟨HM.o,by rw[if_neg HL.o],rfl,rfl,rfl⟩)⟩)
theorem XB(base:Nat)(s:Sc)(hs:s.ok)(sA:iX)(sn sk wb h:Nat)(w:l6)(S:HS)(g n ck:Nat)(tv:Value)(L:List Ca)(trips:List Tr)(T:Int)(i:Nat)(x:Ca)
  (H:Wd base s sA sn sk wb h w S (.slice (some ⟨g,0,none⟩) n ck) tv L trips T)(hn:L.length=n)(hnk:n<=ck)(hn1:n<=1000)(hi:L[i]?=some x)(hok:x.ok s.gap)(hm:x.c.mode=2\/x.c.mode=3)(hl0:2<=x.c.left)(hl1:x.c.left<=64):
  Calls prog 143 #[.pointer (some ⟨wb,0,none⟩),O J (i:Int)] w (Uw base s sA sn sk wb h w S (.slice (some ⟨g,0,none⟩) n ck) tv L trips T i x):=by
 have h2:=ze H;have HI:=ze hi;have HN:=ze hn;have hf:i<n:=by have:=(qd.1 hi).1;omega
 have hd:=ze (H.ri x (jx hi)).1;have h6:=ze H.bx;have h9:=H.bx.lt (by simp);have h7:=(H.cr.lt (k:=g) rfl).2;have p0:=hok.p0;have p1:=hok.p1;have d0:=hok.d0;have d1:=hok.d1;have n1:=hok.n1;have b0:=H.cr.elem_cell zh hn hi (show 0<6 by omega) rfl;have b1:=(H.cr.elem_cell zh hn hi (show 1<6 by omega) rfl).1;have b2:=(H.cr.elem_cell zh hn hi (show 2<6 by omega) rfl).1;have b3:=(H.cr.elem_cell zh hn hi (show 3<6 by omega) rfl).1;have b4:=(H.cr.elem_cell zh hn hi (show 4<6 by omega) rfl).1;have b5:=(H.cr.elem_cell zh hn hi (show 5<6 by omega) rfl).1;have b0:w.cell? ⟨g,i*6,none⟩=some (O J x.c.pos):=b0.1;have i0:(0:Int)<=(i:Int):=by omega
 have i1:(i:Int)<(n:Int):=by omega
 obtain⟨c,A,rn,rk,l⟩:=x;obtain⟨⟨x0,x1,x2,x3,x4,x5,x6,x7,x8,x9,x10,x11,x12,x13,x14,x15,x16⟩,-⟩:=H.bx.o17;clear x0 x1 x2 x3 x4 x5 x6 x7 x8 x9 x10 x11 x12 x13 x15 x16;have h8:i<=n:=by omega
 have he:=h7;simp only at hm hl0 hl1 p0 p1 d0 d1 n1 b0 b1 b2 b3 b4 b5;clear H hi hn hok;have m0:(c.mode==0)=false:=by(simp;omega)
 have m1:(c.mode==1)=false:=by(simp;omega)
 have m4:(c.mode==4)=false:=by(simp;omega)
 have HM:=ze hm;clear hm
 go_in
 go_upto_region 2 with(fail);refine zq (w:=w) (fun V=>Bx V w.heap.size (c.lv (.slice A rn rk))/\w.heap.size<V.heap.size) ⟨Bx.new w (c.lv (.slice A rn rk)) 265,by simp⟩ ((Below.refl w.heap.size w).alloc fi _) ?_;rintro V ⟨hq,ha⟩ h3;have HQ:=ze hq;have h5:=ze h3;obtain⟨⟨c0,c1,c2,c3,c4,c5⟩,e0,e1,e2,e3,e4,e5⟩:=HQ.o.o6;clear hq h3 b0 b1 b2 b3 b4 b5 x14;clear e0 e1 e2 e4 e5;have l1:(c.left-1==0)=false:=by simp;omega
 go_wp2_with fail;refine qj (w:=w) (W:=V.setCell ⟨w.heap.size,3,none⟩ (O J (c.left-1))) (fun V3=>Bx V3 w.heap.size (Cr.lv ⟨c.pos,c.dir,c.mode,c.left-1,c.wt⟩ (.slice A rn rk))/\w.heap.size<V3.heap.size) ⟨HQ.o.set 3 _,by simpa using ha⟩ (h5.o.setCell (p:=⟨w.heap.size,3,none⟩) fi _) ?_;clear c0 c1 c2 c3 c4 c5 e3;rintro V3 ⟨h4,hg⟩ h1;have hc:=ze h1;have HF:=ze (ky (c':=⟨c.pos,c.dir,c.mode,c.left-1,c.wt⟩) h2.o HN.o HI.o h1);obtain⟨⟨y0,y1,y2,y3,y4,y5⟩,-⟩:=h4.o6;obtain⟨⟨x0,x1,x2,x3,x4,x5,x6,x7,x8,x9,x10,x11,x12,x13,x14,x15,x16⟩,-⟩:=(h6.o.below h1 h9).o17;have h0:=ze (h2.o.cr.below h1);obtain⟨r0,f0⟩:=h0.o.elem_cell zh HN.o HI.o (show 0<6 by omega) rfl;obtain⟨r1,f1⟩:=h0.o.elem_cell zh HN.o HI.o (show 1<6 by omega) rfl;obtain⟨r2,f2⟩:=h0.o.elem_cell zh HN.o HI.o (show 2<6 by omega) rfl;obtain⟨r3,f3⟩:=h0.o.elem_cell zh HN.o HI.o (show 3<6 by omega) rfl;obtain⟨r4,f4⟩:=h0.o.elem_cell zh HN.o HI.o (show 4<6 by omega) rfl;obtain⟨r5,f5⟩:=h0.o.elem_cell zh HN.o HI.o (show 5<6 by omega) rfl;have r0:V3.cell? ⟨g,i*6,none⟩=some (O J c.pos):=r0;have f0:V3.frozen? ⟨g,i*6,none⟩=false:=f0;clear x0 x1 x2 x3 x4 x5 x6 x7 x8 x9 x10 x11 x12 x13 x15 x16 h4 h1;go_wp2_with fail;go_region
 all_goals(
  go_wp2_with fail;go_ret;exact⟨false,⟨⟨c.pos,c.dir,c.mode,c.left-1,c.wt⟩,A,rn,rk,l⟩,S,trips,rfl,HF.o.below fh.drew,by omega,by omega,⟨fun h=>h,fun h=>by(have h:c.mode=0\/c.mode=1:=h);have:=HM.o;omega,fun _ h=>by(have h:c.left=1:=h);omega,fun _=>⟨rfl,rfl⟩⟩,.inr (.inr (.inl ⟨HM.o,by show c.left≠1;omega,rfl,rfl,rfl,rfl⟩))⟩)
end
section
open Go.RowKit HB
theorem gW{s:Sc}(hs:s.ok):0<=qt s/\qt s<=3000:=by
 have:=hs.opn;have:=hs.tr;have:=hs.dw;have:=hs.cl;have:=hs.gap;have:=hs.fl;have h1:0<=(s.fl-1)*s.gap:=JE (by omega) (by omega);have h2:(s.fl-1)*s.gap<=127*16:=yO (by omega) (by omega) (by omega) (by omega);unfold qt;omega
theorem gv(s:Sc)(hs:s.ok)(A:iX)(n c:Nat)(w:l6):Calls prog 53 #[s.v A n c] w (fk (O J (qt s)) w):=by
 obtain⟨f0,f1⟩:=hs.fl;obtain⟨g0,g1⟩:=hs.gap;obtain⟨o0,o1⟩:=hs.opn;obtain⟨d0,d1⟩:=hs.dw;obtain⟨c0,c1⟩:=hs.cl;obtain⟨t0,t1⟩:=hs.tr;obtain⟨p,hp⟩:∃ p,p=(s.fl-1)*s.gap:=⟨_,rfl⟩;have p0:0<=p:=by rw[hp];exact JE (by omega) (by omega)
 have p1:p<=127*16:=by rw[hp];exact yO (by omega) (by omega) (by omega) (by omega)
 have HT:=ze (fun W=>YN s.fl s.gap p W hp (by omega) (by omega) (by omega) (by omega));have HQ:=ze (show 2*s.opn+max s.tr s.dw+s.dw+s.cl+p+s.gap+4=qt s from by rw[hp];rfl);clear hp hs
 go_in
 go_upto_region 1 with(fail);refine j9 (w:=w) (fun W=>Bs w W [(w.heap.size,s.ls A n c)]) (Bs.one w (s.ls A n c) 25) (by go_grown) (by simp) ?_;rintro W hb h0 h1;clear h0 h1;have HB:=ze hb;obtain⟨⟨s0,s1,s2,s3,s4,s5,s6,s7,s8,s9,s10,s11,s12⟩,-⟩:=(HB.o.cell (q:=w.heap.size) (l:=s.ls A n c) (by simp)).o13;clear hb;go_quiet((go_at_call 76;exact iN (HT.o _)));go_wp2_with fail;go_ret;exact⟨zJ HQ.o,zg HB.o.b _⟩
theorem gB(s:Sc)(hs:s.ok)(A:iX)(n c:Nat)(w:l6):Calls prog 28 #[s.v A n c] w (fk (O J (2*qt s)) w):=by
 obtain⟨q0,q1⟩:=gW hs;have HT:=ze (fun W=>gv s hs A n c W);have h0:=ze (Bs.one w (s.ls A n c) 25);clear hs;generalize qt s=q at*
 go_in
 go_wp2_with(go_at_call 53;refine(HT.o _).mono ?_;rintro r w1 ⟨rfl,hb⟩;have h1:=ze (h0.o.step hb);clear hb);go_ret;exact⟨rfl,h1.o.b⟩
theorem gp(s:Sc)(hs:s.ok)(A:iX)(n c:Nat)(k l:Int)(k0:0<=k)(k1:k<=100000)(l0:0<=l)(l1:l<=10000000)(w:l6):Calls prog 9 #[s.v A n c,O J k,O J l] w (fk (O J (l+k*(2*qt s))) w):=by
 obtain⟨q0,q1⟩:=gW hs;have HT:=ze (fun W=>gB s hs A n c W);have h0:=ze (Bs.one w (s.ls A n c) 25);clear hs;generalize qt s=q at*;obtain⟨x,hx⟩:∃ x,x=k*(2*q):=⟨_,rfl⟩;have x0:0<=x:=by rw[hx];exact JE k0 (by omega)
 have x1:x<=100000*6000:=by rw[hx];exact yO k1 (by omega) (by omega) (by omega)
 have ew:IntKind.i64.wrap (k*(2*q))=x:=by rw[<-hx,JH];omega
 rw[<-hx];clear hx
 go_in
 go_wp2_with(go_at_call 28;refine(HT.o _).mono ?_;rintro r w1 ⟨rfl,hb⟩;have h1:=ze (h0.o.step hb);clear hb);go_ret;exact⟨rfl,h1.o.b⟩
end
end Go.Proofs.YtdeogmbfgkepeaaGreatDoor
