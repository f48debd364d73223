/- Contracts for WholeDelivers. -/
import Derived.Test.YtdeogmbfgkepeaaGreatDoorR19
import Derived.Test.YtdeogmbfgkepeaaGreatDoorR28
set_option linter.unusedVariables false
set_option linter.unusedSimpArgs false
set_option maxRecDepth 100000
set_option maxHeartbeats 64000000
namespace Go.Proofs.YtdeogmbfgkepeaaGreatDoor
open Go.Proofs.Tryz
open Go.Value renaming int->O
open Go.IntKind renaming i64->J,u64->U
section
open Go.RowKit HB Go.Maps CalP
structure TrOk(T:Int)(t:Tr):Prop where
 a0:0<=t.ar
 a1:t.ar<=T
 bo:t.bo=-1\/(t.ar<=t.bo/\t.bo<=T)
 al:t.al=-1\/(0<=t.bo/\t.bo<=t.al/\t.al<=T)
structure Inv(T:Int)(trips:List Tr)(L:HK->List Wt)(R:List (List Rid)):Prop where
 tr:∀ t∈trips,TrOk T t
 wt:∀ k,∀x∈L k,0<=x.id/\x.id<trips.length/\∀ t,trips[x.id.toNat]?=some t->t.bo=-1/\t.al=-1
 inc:∀ k,(L k).Pairwise (fun x y=>x.id<y.id)
 uni:∀ k k' x x',x∈L k->x'∈L k'->x.id=x'.id->k=k'
 ri:∀ l∈R,∀r∈l,0<=r.id/\r.id<trips.length/\∀ t,trips[r.id.toNat]?=some t->0<=t.bo
section
variable{T T':Int}{trips:List Tr}{L:HK->List Wt}{R:List (List Rid)}
theorem TrOk.later{t:Tr}(h:TrOk T t)(hT:T<=T'):TrOk T' t:=
 ⟨h.a0,iQ h.a1 hT,h.bo.imp id (fun h=>⟨h.1,by omega⟩),h.al.imp id (fun h=>⟨h.1,h.2.1,by omega⟩)⟩
theorem Inv.later(h:Inv T trips L R)(hT:T<=T'):Inv T' trips L R:=
 ⟨fun t ht=>(h.tr t ht).later hT,h.wt,h.inc,h.uni,h.ri⟩
theorem Inv.none(R:List (List Rid))(hR:∀ l∈R,l=[])(T:Int):Inv T [] (fun _=>[]) R:=
 ⟨fun t ht=>(by cases ht),fun k x hx=>(by cases hx),fun k=>dU,fun k k' x x' hx=>(by cases hx),fun l hl r hr=>(by have:=hR l hl;subst this;cases hr)⟩
theorem Inv.adm(h:Inv T trips L R)(t:Tr)(x:Wt)(k:HK)(h0:0<=t.ar)(h1:t.ar<=T)(hb:t.bo=-1)(ha:t.al=-1)(hx:x.id=trips.length):Inv T (trips++[t]) (qf L k (L k++[x])) R:=by
 have old:∀ k',∀y∈qf L k (L k++[x]) k',(y∈L k')\/(y=x/\k'=k):=by
  intro k' y hy;by_cases hk:k'=k
  ·subst hk;rw[jp]at hy;rcases yp.1 hy with hy|hy
   ·exact .inl hy
   ·exact .inr ⟨vN.1 hy,rfl⟩
  ·rw[zU _ _ hk]at hy;exact .inl hy
 refine⟨?_,?_,?_,?_,?_⟩
 ·intro u hu;rcases yp.1 hu with hu|hu
  ·exact h.tr u hu
  ·obtain rfl:=vN.1 hu;exact⟨h0,h1,.inl hb,.inl ha⟩
 ·intro k' y hy;rcases old k' y hy with hy|⟨rfl,-⟩
  ·obtain⟨a,b,c⟩:=h.wt k' y hy;refine⟨a,by rw[kC];simp;omega,fun u hu=>c u ?_⟩;rw[XV (by omega)]at hu;exact hu
  ·refine⟨by omega,by rw[kC];simp;omega,fun u hu=>?_⟩;rw[XY (by omega),hx,show((trips.length:Nat):Int).toNat-trips.length=0 by omega]at hu;simp at hu;subst hu;exact⟨hb,ha⟩
 ·intro k';by_cases hk:k'=k
  ·subst hk;rw[jp];refine XZ.2 ⟨h.inc k',List.pairwise_singleton _ _,fun y hy z hz=>?_⟩;obtain rfl:=vN.1 hz;have:=(h.wt k' y hy).2.1;omega
  ·rw[zU _ _ hk];exact h.inc k'
 ·intro k1 k2 y y' hy h3 he;rcases old k1 y hy with h1|⟨e1,e2⟩
  ·rcases old k2 y' h3 with h2|⟨e3,e4⟩
   ·exact h.uni _ _ _ _ h1 h2 he
   ·have:=(h.wt k1 y h1).2.1;rw[he,e3,hx]at this;omega
  ·rcases old k2 y' h3 with h2|⟨e3,e4⟩
   ·have:=(h.wt k2 y' h2).2.1;rw[<-he,e1,hx]at this;omega
   ·rw[e2,e4]
 ·intro l hl r hr;obtain⟨a,b,c⟩:=h.ri l hl r hr;refine⟨a,by rw[kC];simp;omega,fun u hu=>c u ?_⟩;rw[XV (by omega)]at hu;exact hu
theorem zx{α:Type}{l:List α}{i j:Nat}{x y:α}(h:(l.set i x)[j]?=some y):(i=j/\y=x/\j<l.length)\/(i≠j/\l[j]?=some y):=by
 rw[vt]at h;split at h
 ·rename_i e;subst e;split at h
  ·exact .inl ⟨rfl,(ve h).symm,by assumption⟩
  ·cases h
 ·exact .inr ⟨by assumption,h⟩
theorem Inv.o(h:Inv T trips L R){i:Nat}{l l':List Rid}{r:Rid}{t:Tr}(hl:R[i]?=some l)(hr:r∈l)(hs:∀ x∈l',x∈l)(ht:trips[r.id.toNat]?=some t):
  Inv T (trips.set r.id.toNat {t with al:=T}) L (R.set i l'):=by
 have h2:=h.ri l (jx hl) r hr;have hb:=h2.2.2 t ht;have h0:=h.tr t (jx ht);refine⟨?_,?_,h.inc,h.uni,?_⟩
 ·intro u hu;obtain⟨j,hj⟩:=Z5 hu;rcases zx hj with⟨rfl,rfl,-⟩|⟨-,hj⟩
  ·refine⟨h0.a0,h0.a1,h0.bo,.inr ⟨hb,?_,Vu _⟩⟩;rcases h0.bo with h1|h1
   ·omega
   ·exact h1.2
  ·exact h.tr u (jx hj)
 ·intro k x hx;obtain⟨a,b,c⟩:=h.wt k x hx;refine⟨a,by rw[ye];exact b,fun u hu=>?_⟩;rcases zx hu with⟨e,rfl,-⟩|⟨-,hu⟩
  ·have:=(c t (e▸ht)).1;omega
  ·exact c u hu
 ·intro m hm x hx;have key:0<=x.id/\x.id<trips.length/\∀ t,trips[x.id.toNat]?=some t->0<=t.bo:=by
   obtain⟨j,hj⟩:=Z5 hm;rcases zx hj with⟨rfl,rfl,-⟩|⟨-,hj⟩
   ·exact h.ri l (jx hl) x (hs x hx)
   ·exact h.ri m (jx hj) x hx
  refine⟨key.1,by rw[ye];exact key.2.1,fun u hu=>?_⟩;rcases zx hu with⟨e,rfl,-⟩|⟨-,hu⟩
  ·exact hb
  ·exact key.2.2 u hu
theorem Inv.in_(h:Inv T trips L R){k:HK}{x:Wt}{tl:List Wt}(hk:L k=x::tl){i:Nat}{l:List Rid}{t:Tr}(c z:Int)(hl:R[i]?=some l)(ht:trips[x.id.toNat]?=some t)(hT:0<=T):
  Inv T (trips.set x.id.toNat {t with car:=c,bo:=T}) (qf L k tl) (R.set i (l++[⟨x.id,z⟩])):=by
 have hx:=h.wt k x (by rw[hk];exact xz ..);have h2:=hx.2.2 t ht;have h1:=h.tr t (jx ht);have sub:∀ k',∀y∈qf L k tl k',y∈L k'/\y.id≠x.id:=by
  intro k' y hy;by_cases h0:k'=k
  ·subst h0;rw[jp]at hy;have hp:=h.inc k';rw[hk,QK]at hp;exact⟨by rw[hk];exact yP _ hy,by have:=hp.1 y hy;omega⟩
  ·rw[zU _ _ h0]at hy;exact⟨hy,fun e=>h0 (h.uni k' k y x hy (by rw[hk];exact xz ..) e)⟩
 refine⟨?_,?_,?_,?_,?_⟩
 ·intro u hu;obtain⟨j,hj⟩:=Z5 hu;rcases zx hj with⟨rfl,rfl,-⟩|⟨-,hj⟩
  ·exact⟨h1.a0,h1.a1,.inr ⟨h1.a1,Vu _⟩,.inl h2.2⟩
  ·exact h.tr u (jx hj)
 ·intro k' y hy;obtain⟨h4,h5⟩:=sub k' y hy;obtain⟨a,b,c⟩:=h.wt k' y h4;refine⟨a,by rw[ye];exact b,fun u hu=>?_⟩;rcases zx hu with⟨e,rfl,-⟩|⟨-,hu⟩
  ·have:=hx.1;omega
  ·exact c u hu
 ·intro k';by_cases h0:k'=k
  ·subst h0;rw[jp];have hp:=h.inc k';rw[hk,QK]at hp;exact hp.2
  ·rw[zU _ _ h0];exact h.inc k'
 ·intro k1 k2 y y' hy h3 he;exact h.uni _ _ _ _ (sub k1 y hy).1 (sub k2 y' h3).1 he
 ·intro m hm r hr;have key:(0<=r.id/\r.id<trips.length/\∀ t,trips[r.id.toNat]?=some t->0<=t.bo)\/r.id=x.id:=by
   obtain⟨j,hj⟩:=Z5 hm;rcases zx hj with⟨rfl,rfl,-⟩|⟨-,hj⟩
   ·rcases yp.1 hr with hr|hr
    ·exact .inl (h.ri l (jx hl) r hr)
    ·obtain rfl:=vN.1 hr;exact .inr rfl
   ·exact .inl (h.ri m (jx hj) r hr)
  rcases key with key|key
  ·refine⟨key.1,by rw[ye];exact key.2.1,fun u hu=>?_⟩;rcases zx hu with⟨e,rfl,-⟩|⟨-,hu⟩
   ·exact hT
   ·exact key.2.2 u hu
  ·refine⟨by omega,by rw[ye];omega,fun u hu=>?_⟩;rcases zx hu with⟨e,rfl,-⟩|⟨e,hu⟩
   ·exact hT
   ·exact absurd (by rw[key]) e
theorem Yo:∀(l:List Wt)(n:Int)(b:Nat),l.Pairwise (fun x y=>x.id<y.id)->(∀x∈l,n<=x.id/\x.id<n+b)->l.length<=b
 |[],_,_,_,_=>vf _
 |x::l,n,b,hp,hx=>by
  rw[QK]at hp;have h0:=hx x (xz ..);have hd:∃ b',b=b'+(x.id-n).toNat+1:=⟨b-(x.id-n).toNat-1,by omega⟩;obtain⟨b',rfl⟩:=hd;have:=Yo l (x.id+1) b' hp.2 (fun y hy=>by have h1:=hp.1 y hy;have h2:=hx y (yP _ hy);omega);rw[Zn];omega
theorem Inv.len(h:Inv T trips L R)(k:HK):(L k).length<=trips.length:=
 Yo (L k) 0 trips.length (h.inc k) (fun x hx=>by have:=h.wt k x hx;omega)
theorem Inv.ok(h:Inv T trips L R)(hT:T<=100000000):∀ t∈trips,t.ok:=fun t ht=>by
 have:=h.tr t ht;refine⟨by have:=this.a0;omega,by have:=this.a1;omega,?_,?_,?_,?_⟩
 ·rcases this.bo with h|h
  ·omega
  ·have:=this.a0;omega
 ·rcases this.bo with h|h<;>omega
 ·rcases this.al with h|h<;>omega
 ·rcases this.al with h|h<;>omega
theorem Inv.done(h:Inv T trips L R):∀ t∈trips,dn t=true->0<=t.bo-t.ar/\0<=t.al-t.bo/\t.bo-t.ar<=T/\t.al-t.bo<=T:=fun t ht hd=>by
 have h1:=h.tr t ht;have h2:0<=t.al:=by
  unfold dn Tr.ph at hd;split at hd
  ·assumption
  ·split at hd<;>simp at hd
 have h3:=h1.a0;have h4:=h1.a1;rcases h1.al with h|h
 ·omega
 ·rcases h1.bo with h'|h'
  ·omega
  ·omega
end
theorem Yq{Q:l6->Prop}{w W:l6}(S:l6->Prop)(hS:S W)(hb:fj w W)(h:∀ W':l6,S W'->fj w W'->Q W'):Q W:=h W hS hb
def Ld(fc:Int×Int->Option (Int×Int))(fw:HK->Option Sl)(i d f:Int):Prop:=(∃n,fc (f,d)=some (n,i))\/(0<=i/\(fw (f,d,i)).isSome=true)
section
variable{fc:Int×Int->Option (Int×Int)}{fw:HK->Option Sl}{left:Int×Int->Prop}{lef:HK->Prop}{d i x1 x2 x3 c1 c2:Int}{c:Sl}
theorem ic(hf:fc (x1,x2)=some (c1,c2))(e1:c2=i)(e2:x2=d)(f:Int):((∃n,fc (f,d)=some (n,i)/\¬ left (f,d))\/x1=f)↔∃ n,fc (f,d)=some (n,i)/\¬ (left (f,d)/\(f,d)≠(x1,x2)):=by
 subst e1;subst e2;constructor
 ·rintro(⟨n,h1,h2⟩|rfl)
  ·exact⟨n,h1,fun h=>h2 h.1⟩
  ·exact⟨c1,hf,fun h=>h.2 rfl⟩
 ·rintro⟨n,h1,h2⟩;by_cases h3:x1=f
  ·exact .inr h3
  ·exact .inl ⟨n,h1,fun h=>h2 ⟨h,fun e=>h3 (YK e).1.symm⟩⟩
theorem io(hf:fc (x1,x2)=some (c1,c2))(e:¬ (c2=i/\x2=d))(f:Int):(∃n,fc (f,d)=some (n,i)/\¬ left (f,d))↔∃ n,fc (f,d)=some (n,i)/\¬ (left (f,d)/\(f,d)≠(x1,x2)):=by
 constructor
 ·rintro⟨n,h1,h2⟩;exact⟨n,h1,fun h=>h2 h.1⟩
 ·rintro⟨n,h1,h2⟩;refine⟨n,h1,fun h=>h2 ⟨h,fun e2=>e ?_⟩⟩;rw[e2,hf]at h1;exact⟨(YK (ve h1)).2,(YK e2).2.symm⟩
theorem ie{A:Int->Prop}(hf:fw (x1,x2,x3)=some c)(i0:0<=i)(e1:x3=i)(e2:x2=d)(f:Int):((A f\/(0<=i/\(fw (f,d,i)).isSome=true/\¬ lef (f,d,i)))\/x1=f)↔A f\/(0<=i/\(fw (f,d,i)).isSome=true/\¬ (lef (f,d,i)/\(f,d,i)≠(x1,x2,x3))):=by
 subst e1;subst e2;constructor
 ·rintro((h|⟨h0,h1,h2⟩)|rfl)
  ·exact .inl h
  ·exact .inr ⟨h0,h1,fun h=>h2 h.1⟩
  ·exact .inr ⟨i0,by rw[hf];rfl,fun h=>h.2 rfl⟩
 ·rintro(h|⟨h0,h1,h2⟩)
  ·exact .inl (.inl h)
  ·by_cases h3:x1=f
   ·exact .inr h3
   ·exact .inl (.inr ⟨h0,h1,fun h=>h2 ⟨h,fun e=>h3 (YK e).1.symm⟩⟩)
theorem ip{A:Int->Prop}(e:¬ (x3=i/\x2=d/\0<=i))(f:Int):(A f\/(0<=i/\(fw (f,d,i)).isSome=true/\¬ lef (f,d,i)))↔A f\/(0<=i/\(fw (f,d,i)).isSome=true/\¬ (lef (f,d,i)/\(f,d,i)≠(x1,x2,x3))):=by
 refine or_congr Iff.rfl ⟨fun⟨h0,h1,h2⟩=>⟨h0,h1,fun h=>h2 h.1⟩,fun⟨h0,h1,h2⟩=>⟨h0,h1,fun h=>h2 ⟨h,fun e2=>e ?_⟩⟩⟩;have e3:=(YK (YK e2).2);exact⟨e3.2.symm,e3.1.symm,h0⟩
end
structure LnS(w W:l6)(P:Int->Prop):Prop where
 b:fj w W
 z:w.heap.size+1<W.heap.size
 r:Bx W w.heap.size [O U 0,O U 0]
 s:∃ x y:Int,Bx W (w.heap.size+1) [O U x,O U y]/\SetOf x y P
section
variable{w W W':l6}{P Q:Int->Prop}
theorem LnS.congr(h:LnS w W P)(e:∀ n:Nat,n<128->(P n↔Q n)):LnS w W Q:=⟨h.b,h.z,h.r,h.s.imp fun x=>Exists.imp fun y hh=>⟨hh.1,hh.2.congr e⟩⟩
theorem LnS.step(h:LnS w W P)(hb:fj W W'):LnS w W' P:=by
 have hz:=h.z;have hs:=hb.size;obtain⟨x,y,h0,hP⟩:=h.s;exact⟨h.b.trans (hb.mono (by omega)),by omega,h.r.below hb (by omega),x,y,h0.below hb (by omega),hP⟩
theorem LnS.grown(h:LnS w W P){r:Nat}(hg:W.grownBy W' (some r))(hr:w.heap.size+2<=r):LnS w W' P:=by
 have hz:=h.z;have hs:=hg.size;obtain⟨x,y,h0,hP⟩:=h.s;exact⟨h.b.grown hg (by omega) (fun k hk=>by injection hk with hk;omega),by omega,h.r.block (hg.block _ (by omega) (by intro e;injection e;omega)),x,y,h0.block (hg.block _ (by omega) (by intro e;injection e;omega)),hP⟩
theorem LnS.set(h:LnS w W P){u v:Int}(hQ:SetOf u v Q):LnS w ((W.setCell ⟨w.heap.size+1,0,none⟩ (O U u)).setCell ⟨w.heap.size+1,1,none⟩ (O U v)) Q:=by
 obtain⟨x,y,h0,hP⟩:=h.s;refine⟨(h.b.setCell (p:=⟨w.heap.size+1,0,none⟩) (Ut _) _).setCell (p:=⟨w.heap.size+1,1,none⟩) (Ut _) _,by simpa using h.z,(h.r.setOther (by simp) _).setOther (by simp) _,u,v,?_,hQ⟩;have:=(h0.set 0 (O U u)).set 1 (O U v);simpa using this
end
theorem qv(h:Nat)(S:HS)(i d:Int)(w:l6)(H:Hl w h S)(hd:d=1\/d=-1)(hi:jX i):
  Calls prog 192 #[.pointer (some ⟨h,0,none⟩),O J i,O J d] w fun e w'=>(∃x y,e=.returned (zy x y)/\SetOf x y (Ld S.fc S.fw i d))/\fj w w':=by
 have hy:=ze (Bx.two w [O U 0,O U 0] [O U 0,O U 0] 325 325 (by decide));have hW:=H.xlt (.inl rfl);have hA:=ze (show LnS w ((w.alloc (.cells #[O U 0,O U 0] 325)).alloc (.cells #[O U 0,O U 0] 325)) (fun _=>False)from⟨by go_grown,by simp,hy.o.1,0,0,hy.o.2,SetOf.nil⟩);have HC:=ze H;have hI:=ze hi;have hv:=ze (show jX d from by rcases hd with rfl|rfl<;>exact zQ (by decide) (by decide));have HW:=ze (fun x y n V=>QV x y n V);clear H hy hd hi
 go_in
 go_upto_region 2 with(fail);refine Yq (w:=w) (fun V=>LnS w V (fun _=>False)) hA.o hA.o.b ?_;rintro V hl hC;have HL:=ze hl;have c1:=(HC.o.below hC).c1;have c0:=(HC.o.below hC).c0;obtain⟨V1,cnt1,hs,hq,-,hM,hP⟩:=(HC.o.below hC).m2.rangeK (T:=304) (E:=363) underlying304;have hJ:=ze (HL.o.step hM);have hL:=ze hq;have hz:=hl.z;clear hl hM hq hA;go_wp2_with fail;generalize V.heap.size=r1 at*;clear hs c0 c1
 go_loopw [8] (fun _ wr=>∃ cnt left,Rk cellK qc S.fc S.mc wr r1 cnt left/\LnS w wr (fun f=>∃ n,S.fc (f,d)=some (n,i)/\¬ left (f,d))) (fun _ wr=>qu S.mc wr r1)
 case atStart=>exact⟨cnt1,_,hL.o,hJ.o.congr fun n hn=>⟨False.elim,fun⟨m,h1,h2⟩=>h2 ⟨⟨zQ (by omega) (by omega),hv.o⟩,by rw[h1];rfl⟩⟩⟩
 case round=>
  obtain⟨cnt,left,h9,hl⟩:=hrel;have HL:=ze hl;have HR:=ze h9;rcases h9.next 0 with⟨h0,hp,he⟩|⟨x,c,w2,cnt2,hx,hE,hm,he,h4,h8,ho,hG,hk⟩
  ·have HL:=ze (HL.o.congr (Q:=fun f=>∃ n,S.fc (f,d)=some (n,i)) fun n hn=>⟨fun⟨m,h,_⟩=>⟨m,h⟩,fun⟨m,h⟩=>⟨m,h,hp _ ⟨zQ (by omega) (by omega),hv.o⟩⟩⟩);clear h9 h0 hp;have hX:=hl.z;clear hl;have c0:=(HC.o.below HL.o.b).c0;obtain⟨W1,hO⟩:∃ W1,W1=wr:=⟨_,rfl⟩;subst hO;obtain⟨V2,cnt9,ht,hr,-,hb9,hQ⟩:=(HC.o.below HL.o.b).m1.rangeK (T:=303) (E:=358) underlying303;have hN:=ze (HL.o.step hb9);have hB:=ze hr;clear hb9 hr HR hJ hL hQ hP;go_wp2_with fail;clear ht c0 he;generalize W1.heap.size=r2 at*
   go_loopw [10] (fun _ wr=>∃ cnt left,Rk hallK Sl.v S.fw S.mw wr r2 cnt left/\LnS w wr (fun f=>(∃n,S.fc (f,d)=some (n,i))\/(0<=i/\(S.fw (f,d,i)).isSome=true/\¬ left (f,d,i)))) (fun _ wr=>qu S.mw wr r2)
   case atStart=>exact⟨cnt9,_,hB.o,hN.o.congr fun n hn=>⟨.inl,fun h=>h.resolve_right fun⟨_,h1,h2⟩=>h2 ⟨⟨zQ (by omega) (by omega),hv.o,hI.o⟩,h1⟩⟩⟩
   case round=>
    obtain⟨cnt,left,h9,hl⟩:=hrel;have HL:=ze hl;have HR:=ze h9;rcases h9.next 0 with⟨h0,hp,he⟩|⟨x,c,w2,cnt2,hx,hE,hm,he,h4,h8,ho,hG,hk⟩
    ·have hY:=hl.z;have hV:w.heap.size<wr.heap.size:=by omega
     obtain⟨a0,a1,ha,h3⟩:=(hl.congr (Q:=Ld S.fc S.fw i d) fun n hn=>or_congr Iff.rfl ⟨fun⟨h1,h2,_⟩=>⟨h1,h2⟩,fun⟨h1,h2⟩=>⟨h1,h2,hp _ ⟨zQ (by omega) (by omega),hv.o,hI.o⟩⟩⟩).s;have h7:=ze h3;clear h3 hp;obtain⟨⟨d0,d1⟩,g0,g1⟩:=ha.o2;obtain⟨⟨e0,e1⟩,f0,f1⟩:=hl.r.o2;clear hl h9 h0 ha;go_wp2_with fail;refine bodyPost_ret (v:=zy a0 a1) (by rw[zi rfl];go_simp) rfl ?_;exact⟨⟨_,_,rfl,h7.o⟩,(HL.o.b.setCell (p:=⟨w.heap.size,0,none⟩) fi _).setCell (p:=⟨w.heap.size,1,none⟩) fi _⟩
    ·have hc:=ze (HL.o.grown ho (by omega));have h6:=ze h4;have HM:=ze (show qu S.mw w2 r2<qu S.mw wr r2 from by rw[h9.left_eq,h4.left_eq];exact h8);obtain⟨x1,x2,x3⟩:=x;obtain⟨cA,cn,cc⟩:=c;have hF:(Instr.next (.pointer (some ⟨r2,0,none⟩)) false 0).run prog wr=.ok (.tuple #[.bool true,.agg #[O J x1,O J x2,O J x3],.slice cA cn cc]) w2:=he;have hD:(Instr.entry (.pointer (some ⟨r2,0,none⟩))).run prog w2=.ok (.tuple #[.agg #[O J x1,O J x2,O J x3],.slice cA cn cc]) w2:=hk;have hR:=hc.o.z;have hS:w.heap.size<w2.heap.size:=by omega
     have hT:w.heap.size+1<w2.heap.size+1:=by omega
     obtain⟨a0,a1,ha,h3⟩:=hc.o.s;have h7:=ze h3;have hw:=ze hm;clear h3 hm hE;obtain⟨⟨d0,d1⟩,g0,g1⟩:=ha.o2;clear hl h9 he hk h4 ho hG h8 ha;go_wp2_with(go_at_call 231;refine(HW.o a0 a1 x1 _).mono ?_;rintro r w3 ⟨rfl,hj⟩;have h5:=ze (show fj w2 w3 from(((Below.refl w2.heap.size w2).alloc fi _).trans (hj.mono (by simp))));have hf:=ze (hc.o.step h5.o);have hg:=ze (h6.o.below h5.o);have hU:=hf.o.z;obtain⟨z0,z1,hu,-⟩:=hf.o.s;obtain⟨⟨d0,d1⟩,g0,g1⟩:=hu.o2;clear hu hj)
     all_goals
      go_roundw
      case rel=>first
       |exact⟨_,_,(hg.o.set _ (fun b hb e=>by have:=HC.o.m1.lt hb;simp only at e;omega) (by simp only;omega)).set _ (fun b hb e=>by have:=HC.o.m1.lt hb;simp only at e;omega) (by simp only;omega),(hf.o.set (h7.o.with_ x1)).congr fun n _=>ie (A:=fun f=>∃ m,S.fc (f,d)=some (m,i)) (lef:=left) (i:=i) (d:=d) hw.o (by omega) (by omega) (by omega) n⟩
       |exact⟨_,_,h6.o.below ((Below.refl w2.heap.size w2).alloc fi _),(hc.o.step ((Below.refl w2.heap.size w2).alloc fi _)).congr fun n _=>ip (A:=fun f=>∃ m,S.fc (f,d)=some (m,i)) (fw:=S.fw) (lef:=left) (i:=i) (d:=d) (x1:=x1) (x2:=x2) (x3:=x3) (by omega) n⟩
      case measure=>first
       |(rw[(show Rk hallK Sl.v S.fw S.mw _ r2 _ _ from(hg.o.set _ (fun b hb e=>by have:=HC.o.m1.lt hb;simp only at e;omega) (by simp only;omega)).set _ (fun b hb e=>by have:=HC.o.m1.lt hb;simp only at e;omega) (by simp only;omega)).left_eq];have h1:=HM.o;rw[h6.o.left_eq]at h1;exact h1)
       |(rw[(h6.o.below ((Below.refl w2.heap.size w2).alloc fi _)).left_eq];have h1:=HM.o;rw[h6.o.left_eq]at h1;exact h1)
  ·have hc:=ze (HL.o.grown ho (by omega));have h6:=ze h4;have HM:=ze (show qu S.mc w2 r1<qu S.mc wr r1 from by rw[h9.left_eq,h4.left_eq];exact h8);obtain⟨x1,x2⟩:=x;obtain⟨c1,c2⟩:=c;have hF:(Instr.next (.pointer (some ⟨r1,0,none⟩)) false 0).run prog wr=.ok (.tuple #[.bool true,.agg #[O J x1,O J x2],.agg #[O J c1,O J c2]]) w2:=he;have hD:(Instr.entry (.pointer (some ⟨r1,0,none⟩))).run prog w2=.ok (.tuple #[.agg #[O J x1,O J x2],.agg #[O J c1,O J c2]]) w2:=hk;have hR:=hc.o.z;have hS:w.heap.size<w2.heap.size:=by omega
   have hT:w.heap.size+1<w2.heap.size+1:=by omega
   obtain⟨a0,a1,ha,h3⟩:=hc.o.s;have h7:=ze h3;have hw:=ze hm;clear h3 hm hE;obtain⟨⟨d0,d1⟩,g0,g1⟩:=ha.o2;clear hl h9 he hk h4 ho hG h8 ha;go_wp2_with(go_at_call 231;refine(HW.o a0 a1 x1 _).mono ?_;rintro r w3 ⟨rfl,hj⟩;have h5:=ze (show fj w2 w3 from((((Below.refl w2.heap.size w2).alloc fi _).alloc (by simp) _).trans (hj.mono (by simp;omega))));have hf:=ze (hc.o.step h5.o);have hg:=ze (h6.o.below h5.o);have hU:=hf.o.z;obtain⟨z0,z1,hu,-⟩:=hf.o.s;obtain⟨⟨d0,d1⟩,g0,g1⟩:=hu.o2;clear hu hj)
   all_goals
    go_roundw
    case rel=>first
     |exact⟨_,_,(hg.o.set _ (fun b hb e=>by have:=HC.o.m2.lt hb;simp only at e;omega) (by simp only;omega)).set _ (fun b hb e=>by have:=HC.o.m2.lt hb;simp only at e;omega) (by simp only;omega),(hf.o.set (h7.o.with_ x1)).congr fun n _=>ic (left:=left) (i:=i) (d:=d) hw.o (by omega) (eq_of_beq (by assumption)) n⟩
     |exact⟨_,_,h6.o.below (((Below.refl w2.heap.size w2).alloc fi _).alloc (by simp) _),(hc.o.step (((Below.refl w2.heap.size w2).alloc fi _).alloc (by simp) _)).congr fun n _=>io (left:=left) (i:=i) (d:=d) hw.o (by first|omega|(rintro⟨-,e2⟩;have hh:¬ (x2==d)=true:=(by assumption);exact hh (beq_iff_eq.2 e2))|(rintro⟨-,e2⟩;have hh:(x2==d)=false:=(by assumption);rw[beq_iff_eq.2 e2]at hh;cases hh)) n⟩
    case measure=>first
     |(rw[(show Rk cellK qc S.fc S.mc _ r1 _ _ from(hg.o.set _ (fun b hb e=>by have:=HC.o.m2.lt hb;simp only at e;omega) (by simp only;omega)).set _ (fun b hb e=>by have:=HC.o.m2.lt hb;simp only at e;omega) (by simp only;omega)).left_eq];have h1:=HM.o;rw[h6.o.left_eq]at h1;exact h1)
     |(rw[(h6.o.below (((Below.refl w2.heap.size w2).alloc fi _).alloc (by simp) _)).left_eq];have h1:=HM.o;rw[h6.o.left_eq]at h1;exact h1)
end
end Go.Proofs.YtdeogmbfgkepeaaGreatDoor
