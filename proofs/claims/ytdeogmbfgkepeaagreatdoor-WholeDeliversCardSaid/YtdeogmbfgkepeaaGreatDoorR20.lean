/- Contracts for WholeDelivers. -/
import Derived.Maps.AppendAt
import Derived.Test.YtdeogmbfgkepeaaGreatDoorR19
set_option linter.unusedVariables false
set_option linter.unusedSimpArgs false
set_option maxRecDepth 100000
set_option maxHeartbeats 64000000
namespace Go.Proofs.YtdeogmbfgkepeaaGreatDoor
open Go.Proofs.Tryz
open Go.Value renaming int->O
open Go.IntKind renaming i64->J
section
open Go.RowKit HB
namespace HB
theorem ZZ{P:Program}{α:Type}{w:l6}{base:Nat}{e:TypeId}{sz:Nat}{f:α->iZ}{v:Value}{l:List α}(t:TypeId){z:Value}{bytes:Nat}(ht:P.underlying t=some (.slice e))(hinfo:(P.info? e).map (fun i=>(i.zero,i.size,i.bytes))=some (some z,sz,bytes))(hzs:z.cells.size=sz)(hsz:0<sz)(hby:bytes<=1000)
  (hown:Own w base e sz f v l)(y:α)(ad:Addr)(c:Nat)(hl:(f y).length=sz)(hc:∀ j u,(f y)[j]?=some u->w.cell? (ad.add j)=some u)(h1:∀ u∈f y,u.oneCell'=true)
  (hn:l.length<=1000000000)(hbase:base<=w.heap.size):
  ∀ty,∃v' w',(Builtin.append_ #[t,t] ty #[v,.slice (some ad) 1 c]).run P w=.ok v' w'/\Own w' base e sz f v' (l++[y])/\w.grownBy w' v.ownBlock/\(v'.ownBlock=v.ownBlock\/v'.ownBlock=some w.heap.size):=by
 intro ty;obtain⟨i,hi,hz,h3,h2⟩:=info_parts hinfo;obtain⟨v',w',h0,k1,k2,-,k3⟩:=run_append_own_at (P:=P) w base t ty e i z sz bytes ht hi hz h3 h2 hzs hsz v l.length (l.flatMap f) hown.row ad 1 c (f y) (by rw[hl,Nat.one_mul]) hc h1 (by simp only[maxLen];omega) (vD (iK _ hby) (by omega)) hbase;refine⟨v',w',h0,?_,k2,k3⟩
 show w'.ownsRow base e sz _ (l++[y]).length ((l++[y]).flatMap f)
 simpa using k1
theorem jn{P:Program}{α:Type}{w:l6}{base:Nat}{e:TypeId}{sz:Nat}{f:α->iZ}{v:Value}{l:List α}{ops:Array Oper}{o:Oper}{a:Act}{K:Act->l6->Prop}{Q:Exit->Act->l6->Prop}{E:Prop}(hgd:o.guard=none)(s x:Operand)(t:TypeId)
  (ho:o.op=.call {callee:=.builtin .append,args:= #[s,x],argTypes:= #[t,t]})
  {z:Value}{bytes:Nat}(ht:P.underlying t=some (.slice e))(hinfo:(P.info? e).map (fun i=>(i.zero,i.size,i.bytes))=some (some z,sz,bytes))(hzs:z.cells.size=sz)(hsz:0<sz)(hby:bytes<=1000)
  (hs:a.eval s=v)(hown:Own w base e sz f v l)(y:α)(ad:Addr)(c:Nat)(hx:a.eval x=.slice (some ad) 1 c)(hl:(f y).length=sz)(hc:∀ j u,(f y)[j]?=some u->w.cell? (ad.add j)=some u)(h1:∀ u∈f y,u.oneCell'=true)
  (hn:l.length<=1000000000)(hbase:base<=w.heap.size)
  (h:∀ v' w',Own w' base e sz f v' (l++[y])->w.grownBy w' v.ownBlock->(v'.ownBlock=v.ownBlock\/v'.ownBlock=some w.heap.size)->K (a.put o.dst v') w'):if Region.wanted o (yielded ops a.tmps)=true then Oper.wp P o a w K Q else E:=by
 have hw:Region.wanted o (yielded ops a.tmps)=true:=by simp[Region.wanted,hgd]
 rw[if_pos hw];obtain⟨v',w',h0,h2,h3,h4⟩:=ZZ (P:=P) t ht hinfo hzs hsz hby hown y ad c hl hc h1 hn hbase o.type;unfold Oper.wp execOp;simp only[ho,resolve,invoke,builtin,Sem.run_bind,Sem.run_pure,iE,W9,JF,Vm,hs,hx,h0];exact h v' w' h2 h3 h4
end HB
end
section
open Go.RowKit HB Go.Maps CalP
theorem HB.Own.but{α:Type}{f:α->iZ}{base sz:Nat}{e:TypeId}{v:Value}{l:List α}{w w':l6}{X:Nat->Prop}(h:Own w base e sz f v l)(hb:But X w w')(hx:∀ k,v.ownBlock=some k->¬ X k):Own w' base e sz f v l:=by
 rcases h with⟨h1,h2⟩;refine⟨h1,?_⟩;rcases h2 with h2|⟨g,cap,cur,hv,h0,hg,rest⟩
 ·exact .inl h2
 ·exact .inr ⟨g,cap,cur,hv,h0,(hb.block g (Vp.1 hg).1 (hx g (by rw[hv];rfl))).trans hg,rest⟩
theorem HB.But.at1{X:Nat->Prop}{w w':l6}(h:But X w w'){q:Nat}(hq:X q)(o:Nat)(u:Value):But X w (w'.setCell ⟨q,o,none⟩ u):=h.set (a:=⟨q,o,none⟩) (.inl hq) u
structure Lg where
 (t p d:Int)
 o:Bool
deriving Inhabited
abbrev QX(g:Lg):iZ:=[O J g.t,O J g.p,O J g.d,.bool g.o]
structure Lg.ok(g:Lg):Prop where
 t0:0<=g.t
 t1:g.t<=10000000
 p0: -1000000<=g.p
 p1:g.p<=1000000
 d0: -1<=g.d
 d1:g.d<=1
structure Bu where
 v:Value
 (t n:Int)
instance:Inhabited Bu:=⟨⟨.slice none 0 0,0,0⟩⟩
abbrev aD(b:Bu):iZ:=[b.v,O J b.t,O J b.n]
theorem Leg.info:(prog.info? 375).map (fun i=>(i.zero,i.size,i.bytes))=some (some (.agg #[O J 0,O J 0,O J 0,.bool false]),4,32):=by kernel_rfl
theorem uh(g:Lg):∀ u∈QX g,u.oneCell'=true:=by simp[QX,Value.oneCell']
theorem jk(g:Lg):(QX g).length=4:=rfl
theorem qg(b:Bu):(aD b).length=3:=rfl
structure Way(w:l6)(base yb n c:Nat)(Y:List Bu)(i:Nat)(b:Bu)(l:List Lg):Prop where
 own:Own w base 268 3 aD (.slice (some ⟨yb,0,none⟩) n c) Y
 len:Y.length=n
 at_:Y[i]?=some b
 legs:Own w base 375 4 QX b.v l
 ne:∀ k,b.v.ownBlock=some k->k≠yb
 ok:∀ g∈l,g.ok
 t0:0<=b.t
 t1:b.t<=10000000
 n0:0<=b.n
 n1:b.n<=b.t
 ll:(l.length:Int)<=b.t
structure WayP(w:l6)(base yb n c:Nat)(Y:List Bu)(i:Nat)(b:Bu)(k:Int)(w':l6)(b':Bu)(l':List Lg):Prop where
 way:Way w' base yb n c (Y.set i b') i b' l'
 t:b'.t=b.t+k
 but:But (fun q=>q=yb\/b.v.ownBlock=some q) w w'
 new:∀ q,b'.v.ownBlock=some q->b.v.ownBlock=some q\/w.heap.size<=q
section
variable{w w':l6}{base yb n c:Nat}{Y:List Bu}{i:Nat}{b:Bu}{l:List Lg}
theorem Way.lt(h:Way w base yb n c Y i b l):yb<w.heap.size/\base<=yb:=⟨(h.own.row.lt yb rfl).2,(h.own.row.lt yb rfl).1⟩
theorem Way.in_(h:Way w base yb n c Y i b l):i<n:=by
 have:=(qd.1 h.at_).1;rw[h.len]at this;exact this
theorem Way.cells(h:Way w base yb n c Y i b l):(w.cell? ⟨yb,i*3,none⟩=some b.v/\w.cell? ⟨yb,i*3+1,none⟩=some (O J b.t)/\w.cell? ⟨yb,i*3+2,none⟩=some (O J b.n))/\w.frozen? ⟨yb,i*3,none⟩=false/\w.frozen? ⟨yb,i*3+1,none⟩=false/\w.frozen? ⟨yb,i*3+2,none⟩=false:=by
 have h0:=h.own.elem_cell qg h.len h.at_ (show 0<3 by omega) rfl;have h1:=h.own.elem_cell qg h.len h.at_ (show 1<3 by omega) rfl;have h2:=h.own.elem_cell qg h.len h.at_ (show 2<3 by omega) rfl;exact⟨⟨h0.1,h1.1,h2.1⟩,h0.2,h1.2,h2.2⟩
theorem Way.drew(h:Way w base yb n c Y i b l):Way w.drew base yb n c Y i b l:=⟨h.own.drew,h.len,h.at_,h.legs.drew,h.ne,h.ok,h.t0,h.t1,h.n0,h.n1,h.ll⟩
theorem Way.below(h:Way w base yb n c Y i b l)(hb:fj w w'):Way w' base yb n c Y i b l:=⟨h.own.below hb,h.len,h.at_,h.legs.below hb,h.ne,h.ok,h.t0,h.t1,h.n0,h.n1,h.ll⟩
theorem WayP.refl(h:Way w base yb n c Y i b l):WayP w base yb n c Y i b 0 w b l:=
 ⟨by rw[show Y.set i b=Y from bT fun j=>by
   rw[vt];split
   ·rename_i e;subst e;split
    ·exact h.at_.symm
    ·rename_i h';exact absurd (qd.1 h.at_).1 h'
   ·rfl];exact h,by omega,But.refl _ _,fun _ h=>.inl h⟩
theorem WayP.trans{w1 w2:l6}{b1 b2:Bu}{l1 l2:List Lg}{k m:Int}(h0:Way w base yb n c Y i b l)(h:WayP w base yb n c Y i b k w1 b1 l1)(h':WayP w1 base yb n c (Y.set i b1) i b1 m w2 b2 l2):WayP w base yb n c Y i b (k+m) w2 b2 l2:=
 ⟨by have:=h'.way;rw[cW]at this;exact this,by rw[h'.t,h.t];omega,
  h.but.trans h'.but (fun q hq hx=>by
  rcases hx with hx|hx
  ·exact .inl hx
  ·rcases h.new q hx with h1|h1
   ·exact .inr h1
   ·omega),
  fun q hq=>by
  rcases h'.new q hq with h1|h1
  ·exact h.new q h1
  ·exact .inr (vD h.but.size h1)⟩
theorem WayP.below{w2:l6}{b1:Bu}{l1:List Lg}{k:Int}(h:WayP w base yb n c Y i b k w' b1 l1)(hb:Below w'.heap.size w' w2):WayP w base yb n c Y i b k w2 b1 l1:=
 ⟨h.way.below hb,h.t,h.but.then_ hb,h.new⟩
theorem WayP.from_{w0:l6}{b1:Bu}{l1:List Lg}{k:Int}(hb:fj w w0)(h:WayP w0 base yb n c Y i b k w' b1 l1):WayP w base yb n c Y i b k w' b1 l1:=
 ⟨h.way,h.t,(But.of_below hb).trans h.but (fun _ _ h=>h),fun q hq=>(h.new q hq).imp id (fun h=>vD hb.size h)⟩
theorem Way.setT(h:Way w base yb n c Y i b l)(y:Int):Own (w.setCell ⟨yb,i*3+1,none⟩ (O J y)) base 268 3 aD (.slice (some ⟨yb,0,none⟩) n c) (Y.set i {b with t:=y}):=
 (h.own.storeF qg h.len h.at_ (x':={b with t:=y}) rfl (by omega)).1
theorem Way.two(h:Way w base yb n c Y i b l){y z:Int}(hy:y=b.t+1)(hz0:0<=z)(hz1:z<=y)(hy1:b.t+1<=10000000):
  WayP w base yb n c Y i b 1 ((w.setCell ⟨yb,i*3+1,none⟩ (O J y)).setCell ⟨yb,i*3+2,none⟩ (O J z)) ⟨b.v,y,z⟩ l:=by
 have h1:=h.setT y;have hi:=(qd.1 h.at_).1;have h2:=(h1.storeF qg (by rw[ye];exact h.len) (z:=i) (j:=2) (x:={b with t:=y}) (x':=⟨b.v,y,z⟩) (u:=O J z) (by rw[vt];simp[hi]) rfl (by omega)).1;rw[cW]at h2;have hb:But (fun q=>q=yb\/b.v.ownBlock=some q) w ((w.setCell ⟨yb,i*3+1,none⟩ (O J y)).setCell ⟨yb,i*3+2,none⟩ (O J z)):=((But.refl _ w).at1 (.inl rfl) _ _).at1 (.inl rfl) _ _;have h0:But (fun q=>q=yb) w ((w.setCell ⟨yb,i*3+1,none⟩ (O J y)).setCell ⟨yb,i*3+2,none⟩ (O J z)):=((But.refl (fun q=>q=yb) w).at1 rfl _ _).at1 rfl _ _;refine⟨⟨h2,by rw[ye];exact h.len,by rw[vt];simp[hi],Own.but h.legs h0 (fun k hk=>h.ne k hk),h.ne,h.ok,by simp only;have:=h.t0;omega,by simp only;omega,hz0,hz1,by simp only;have:=h.ll;omega⟩,hy,hb,fun q hq=>.inl hq⟩
theorem Way.leg(h:Way w base yb n c Y i b l){w1:l6}{v':Value}{g:Lg}{y:Int}(hg:g.ok)(hown:Own w1 base 375 4 QX v' (l++[g]))(hgr:w.grownBy w1 b.v.ownBlock)(hv:v'.ownBlock=b.v.ownBlock\/v'.ownBlock=some w.heap.size)(hy:y=b.t+1)(hy1:b.t+1<=10000000):
  WayP w base yb n c Y i b 1 (((w1.setCell ⟨yb,i*3,none⟩ v').setCell ⟨yb,i*3+1,none⟩ (O J y)).setCell ⟨yb,i*3+2,none⟩ (O J 1)) ⟨v',y,1⟩ (l++[g]):=by
 have hi:=(qd.1 h.at_).1;have h6:=h.lt;have h0:Own w1 base 268 3 aD (.slice (some ⟨yb,0,none⟩) n c) Y:=iR h.own hgr (.inr (fun e=>h.ne yb e.symm rfl));have h1:=(h0.storeF qg h.len (z:=i) (j:=0) (x':={b with v:=v'}) (u:=v') h.at_ rfl (by omega)).1;have h2:=(h1.storeF qg (by rw[ye];exact h.len) (z:=i) (j:=1) (x:={b with v:=v'}) (x':=⟨v',y,b.n⟩) (u:=O J y) (by rw[vt];simp[hi]) rfl (by omega)).1;rw[cW]at h2;have h3:=(h2.storeF qg (by rw[ye];exact h.len) (z:=i) (j:=2) (x:=⟨v',y,b.n⟩) (x':=⟨v',y,1⟩) (u:=O J 1) (by rw[vt];simp[hi]) rfl (by omega)).1;rw[cW]at h3;have h4:But (fun q=>q=yb) w1 (((w1.setCell ⟨yb,i*3+0,none⟩ v').setCell ⟨yb,i*3+1,none⟩ (O J y)).setCell ⟨yb,i*3+2,none⟩ (O J 1)):=(((But.refl (fun q=>q=yb) w1).at1 rfl _ _).at1 rfl _ _).at1 rfl _ _;have hb:But (fun q=>q=yb\/b.v.ownBlock=some q) w (((w1.setCell ⟨yb,i*3+0,none⟩ v').setCell ⟨yb,i*3+1,none⟩ (O J y)).setCell ⟨yb,i*3+2,none⟩ (O J 1)):=
  (But.of_grown hgr (fun k hk=>.inr hk)).trans (h4.mono (fun q _ hq=>.inl hq)) (fun q _ hq=>hq)
 have h5:∀ k,v'.ownBlock=some k->k≠yb:=fun k hk=>by
  rcases hv with hv|hv
  ·exact h.ne k (hv▸hk)
  ·rw[hv]at hk;injection hk with hk;omega
 refine⟨⟨h3,by rw[ye];exact h.len,by rw[vt];simp[hi],Own.but hown h4 (fun k hk=>h5 k hk),h5,?_,by simp only;have:=h.t0;omega,by simp only;omega,by simp,by simp only;have:=h.t0;omega,by simp only;have:=h.ll;rw[kC,Jp];omega⟩,hy,hb,fun q hq=>?_⟩
 ·intro x hx;rcases yp.1 hx with hx|hx
  ·exact h.ok x hx
  ·rw[vN.1 hx];exact hg
 ·rcases hv with hv|hv
  ·exact .inl (hv▸hq)
  ·rw[hv]at hq;injection hq with hq;exact .inr (by omega)
theorem Way.turn(h:Way w base yb n c Y i b l){g cap:Nat}(hv:b.v=.slice (some ⟨g,0,none⟩) l.length cap){j:Nat}{x:Lg}(hx:l[j]?=some x){d:Int}(d0: -1<=d)(d1:d<=1):
  WayP w base yb n c Y i b 0 (w.setCell ⟨g,j*4+2,none⟩ (O J d)) b (l.set j {x with d:=d}):=by
 have h3:=h.ne g (by rw[hv];rfl);have hl:=h.legs;rw[hv]at hl;have h1:=(hl.storeF jk rfl hx (x':={x with d:=d}) (j:=2) (u:=O J d) rfl (by omega)).1;have hb:But (fun q=>q=g) w (w.setCell ⟨g,j*4+2,none⟩ (O J d)):=(But.refl (fun q=>q=g) w).at1 rfl _ _;have h2:Y.set i b=Y:=bT fun j=>by
   rw[vt];split
   ·rename_i e;subst e;split
    ·exact h.at_.symm
    ·rename_i h';exact absurd (qd.1 h.at_).1 h'
   ·rfl
 refine⟨⟨?_,by rw[ye];exact h.len,by rw[h2];exact h.at_,?_,h.ne,?_,h.t0,h.t1,h.n0,h.n1,by rw[ye];exact h.ll⟩,by omega,hb.mono (fun q _ hq=>.inr (by rw[hq,hv];rfl)),fun q hq=>.inl hq⟩
 ·rw[h2];exact Own.but h.own hb (fun k hk e=>by simp[Value.ownBlock]at hk;omega)
 ·rw[hv];exact h1
 ·intro y hy;obtain⟨q,hq⟩:=Z5 hy;rw[vt]at hq;have h0:=h.ok x (jx hx);split at hq
  ·split at hq
   ·obtain rfl:=ve hq;exact⟨h0.t0,h0.t1,h0.p0,h0.p1,d0,d1⟩
   ·cases hq
  ·exact h.ok y (jx hq)
end
theorem JO(w:l6)(g:Lg)(r:Nat)(hr:r=w.heap.size)(ty:TypeId):∀ j u,(QX g)[j]?=some u->(w.alloc (.cells #[O J g.t,O J g.p,O J g.d,.bool g.o] ty)).cell? ((⟨r,0,none⟩:Addr).add j)=some u:=fun j u hu=>by
 subst hr;have h:=(Bx.new w [O J g.t,O J g.p,O J g.d,.bool g.o] ty j u hu).1;unfold Addr.add;split
 ·rename_i e;rw[e]at h;exact h
 ·simpa using h
end
section
open Go.RowKit HB
theorem VF(A:iX)(n k B:Nat)(l:List Lg)(tick:Int)(w:l6)(hr:Rd w B 4 A n (l.flatMap QX))(hl:l.length=n)(hn:n<=10000000):
  Calls prog 266 #[.slice A n k,O J tick] w fun e w'=>∃ i:Int,e=.returned (O J i)/\-1<=i/\i<n/\w'=w:=by
 have HR:=ze hr;clear hr
 go_in
 go_wp2_with fail
 go_loopw [5,6] (fun a b wr=>∃ lo hi:Nat,lo<=hi/\hi<=n/\a=O J lo/\b=O J hi/\wr=w) (fun a b _=>(intOf b).toNat-(intOf a).toNat)
 case atStart=>exact⟨0,n,by omega,by omega,rfl,rfl,rfl⟩
 case round=>
  obtain⟨lo,hi,h1,h2,rfl,rfl,rfl⟩:=hrel;by_cases h0:lo<hi
  ·obtain⟨m,hm⟩:∃ m:Nat,m=(lo+hi)/2:=⟨_,rfl⟩;have h3:((lo:Int)+(hi:Int))/2=(m:Int):=by omega
   have h4:lo<=m:=by omega
   have h5:m<hi:=by omega
   obtain⟨b,off,x,rfl,hb,hx,hc⟩:=HR.o.elem_at jk hl (i:=m) (by omega);have c0:=hc 0 _ (by omega) rfl;rw[Vt]at c0;have i0:(0:Int)<=(m:Int):=by omega
   have i1:(m:Int)<(n:Int):=by omega
   clear hc hx hm;go_wp2_with fail
   all_goals
    go_roundw
   case rel=>first|exact⟨m+1,hi,by omega,by omega,by go_num,rfl,trivial⟩|exact⟨lo,m,by omega,by omega,rfl,rfl,trivial⟩
   case measure=>simp[intOf];omega
   case rel=>first|exact⟨m+1,hi,by omega,by omega,by go_num,rfl,trivial⟩|exact⟨lo,m,by omega,by omega,rfl,rfl,trivial⟩
   case measure=>simp[intOf];omega
  ·have:lo=hi:=by omega
   subst this;go_wp2_with fail;go_ret;exact⟨_,rfl,by omega,by omega,rfl⟩
theorem WK(A:iX)(n k B:Nat)(l:List Lg)(tick:Int)(w:l6)(hr:Rd w B 4 A n (l.flatMap QX))(hl:l.length=n)(hn:n<=10000000):
  Calls prog 238 #[.slice A n k,O J tick] w fun e w'=>(∃(p:Int)(d b:Bool),e=.returned (.tuple #[O J p,.bool d,.bool b]))/\fj w w':=by
 have HR:=ze hr;have HF:=ze (fun W(hb:W=w)=>VF A n k B l tick W (hb▸hr) hl hn);clear hr
 go_in
 go_upto_region 2 with(go_at_call 266;(refine(HF.o _ rfl).mono ?_);rintro r w1 ⟨i,rfl,h0,h1,e9⟩;have e8:=e9.symm;clear e9;subst e8);by_cases h2:i<0
 ·go_wp2_with fail;go_ret3;exact⟨⟨_,_,_,rfl⟩,fh⟩
 ·obtain⟨m,hm⟩:∃ m:Nat,i=m:=⟨i.toNat,by omega⟩;subst hm;obtain⟨b,off,x,rfl,hb,hx,hc⟩:=HR.o.elem_at jk hl (i:=m) (by omega);have c0:=hc 0 _ (by omega) rfl;have c1:=hc 1 _ (by omega) rfl;have c2:=hc 2 _ (by omega) rfl;have c3:=hc 3 _ (by omega) rfl;rw[Vt]at c0;have i0:(0:Int)<=(m:Int):=by omega
  have i1:(m:Int)<(n:Int):=by omega
  have i2:decide ((m:Int)<0)=false:=by simp
  clear hc hx h2;go_wp2_with fail;go_quiet(fail);go_wp2_with fail;go_ret3;exact⟨⟨_,_,_,rfl⟩,zg fh _⟩
namespace HB
theorem kG{P:Program}{α:Type}{w:l6}{base:Nat}{e:TypeId}{sz:Nat}{f:α->iZ}{v:Value}{l:List α}{ops:Array Oper}{rest:List Oper}{o:Oper}{a:Act}{Q:Exit->Act->l6->Prop}(hgd:o.guard=none)(s x:Operand)(t:TypeId)
  (ho:o.op=.call {callee:=.builtin .append,args:= #[s,x],argTypes:= #[t,t]})
  {z:Value}{bytes:Nat}(ht:P.underlying t=some (.slice e))(hinfo:(P.info? e).map (fun i=>(i.zero,i.size,i.bytes))=some (some z,sz,bytes))(hzs:z.cells.size=sz)(hsz:0<sz)(hby:bytes<=1000)
  (hs:a.eval s=v)(hown:Own w base e sz f v l)(y:α)(ad:Addr)(c:Nat)(hx:a.eval x=.slice (some ad) 1 c)(hl:(f y).length=sz)(hc:∀ j u,(f y)[j]?=some u->w.cell? (ad.add j)=some u)(h1:∀ u∈f y,u.oneCell'=true)
  (hn:l.length<=1000000000)(hbase:base<=w.heap.size)
  (h:∀ v' w',Own w' base e sz f v' (l++[y])->w.grownBy w' v.ownBlock->(v'.ownBlock=v.ownBlock\/v'.ownBlock=some w.heap.size)->wpList P ops Q rest (a.put o.dst v') w'):wpList P ops Q (o::rest) a w:=by
 obtain⟨v',w',h0,h2,h3,h4⟩:=ZZ (P:=P) t ht hinfo hzs hsz hby hown y ad c hl hc h1 hn hbase o.type;refine wpList_plain hgd fun K hK=>?_
 unfold Oper.wp execOp;simp only[ho,resolve,invoke,builtin,Sem.run_bind,Sem.run_pure,iE,W9,JF,Vm,hs,hx,h0];exact hK _ _ (h v' w' h2 h3 h4)
end HB
structure Sp where
 (a b:Int)
abbrev aE(s:Sp):iZ:=[O J s.a,O J s.b]
theorem vi(s:Sp):(aE s).length=2:=rfl
theorem ui(s:Sp):∀ u∈aE s,u.oneCell'=true:=by intro u hu;simp only[aE,qx,Zl,or_false]at hu;rcases hu with rfl|rfl<;>rfl
theorem Span.info:(prog.info? 342).map (fun i=>(i.zero,i.size,i.bytes))=some (some (.agg #[O J 0,O J 0]),2,16):=by kernel_rfl
def Sp.ok(s:Sp):Prop:=0<=s.a/\s.a<=10000000/\0<=s.b/\s.b<=100000000
theorem yz(A:iX)(n k B:Nat)(l:List Lg)(hz:Int)(w:l6)(hr:Rd w B 4 A n (l.flatMap QX))(hB:B<=w.heap.size)(hl:l.length=n)(hn:n<=10000000)(hok:∀ g∈l,g.ok)(h0:0<=hz)(h1:hz<=100000000):
  Calls prog 202 #[.slice A n k,O J hz] w fun e w'=>∃ v out,e=.returned v/\Own w' w.heap.size 342 2 aE v out/\out.length<=n/\(∀s∈out,s.ok)/\fj w w':=by
 have HR:=ze hr;have hi:=ze hok;clear hr hok
 go_in
 go_wp2_with fail
 go_loopw [5,11] (fun o i wr=>∃(j:Nat)(v:Value)(out:List Sp),v=o/\j<=n/\i=O J j/\Own wr w.heap.size 342 2 aE v out/\out.length<=j/\(∀s∈out,s.ok)/\fj w wr) (fun _ i _=>n-(intOf i).toNat)
 case atStart=>exact⟨0,_,[],rfl,vf _,rfl,Own.nil _ _ _ _ _,fi,fun s hs=>(by cases hs),fh⟩
 case round=>
  obtain⟨j,v,out,hv,hj,rfl,ho,hJ,ht,hb⟩:=hrel;subst hv;have HO:=ze ho;have h3:=ze ht;have HB:=ze hb;have he:=hb.size;by_cases hp:j<n
  ·have hf:=HR.o.below (hb.mono hB);obtain⟨b,off,x,rfl,hG,hx,hc⟩:=hf.elem_at jk hl (i:=j) hp;have c0:=hc 0 _ (by omega) rfl;have c3:=hc 3 _ (by omega) rfl;rw[Vt]at c0;have hg:=hi.o x (jx hx);have hF:=ze hg;have x0:=hg.t0;have x1:=hg.t1;have i0:(0:Int)<=(j:Int):=by omega
   have i1:(j:Int)<(n:Int):=by omega
   have key:∃ E:Int,0<=E/\E<=hz/\((j+1<n/\∃ y:Int,wr.cell? ⟨b,off+(j+1)*4,none⟩=some (O J y)/\min hz y=E)\/(¬(j+1<n)/\E=hz)):=by
    by_cases h9:j+1<n
    ·obtain⟨b',off',y,e,-,hy,hw⟩:=hf.elem_at jk hl (i:=j+1) h9;cases e;have:=hi.o y (jx hy);have d0:=hw 0 _ (by omega) rfl;rw[Vt]at d0;exact⟨min hz y.t,by have:=this.t0;omega,by omega,.inl ⟨h9,y.t,d0,rfl⟩⟩
    ·exact⟨hz,h0,Vu _,.inr ⟨h9,rfl⟩⟩
   obtain⟨E,e0,e1,key⟩:=key;have HE:=ze (show E<=100000000 by omega);clear hc hx hf ho ht hb;rcases key with⟨k1,y,d0,d1⟩|⟨k1,d1⟩
   ·have i2:(j:Int)+1<(n:Int):=by omega
    go_upto_region 8 with(fail);clear d0 d1;rcases yd x.o with ho|ho
    rotate_left
    ·rw[ho]at c3;clear ho;go_wp2_with fail;go_roundw
     case rel=>exact⟨j+1,v,out,rfl,by omega,by go_num,HO.o,by omega,h3.o,HB.o⟩
     case measure=>simp[intOf];omega
    rw[ho]at c3;clear ho;by_cases hE:E<=x.t
    ·
     go_wp2_with fail;go_roundw
     case rel=>exact⟨j+1,v,out,rfl,by omega,by go_num,HO.o,by omega,h3.o,HB.o⟩
     case measure=>simp[intOf];omega
    have hu:decide (E<=x.t)=false:=by simp;omega
    clear hE;rcases ZW out.length with h5|h5
    ·have h7:out=[]:=yj h5;subst h7;obtain⟨sA,sk,h4,-,-⟩:=HO.o.shape;rw[KN]at h4;subst h4;go_wp2_with fail;go_quiet(fail);go_wp2_with(at_builtin;refine kG (P:=prog) rfl _ _ 340 rfl underlying340 Span.info rfl (by omega) (by omega) rfl ((HO.o.drewN _).alloc _) (⟨x.t,E⟩:Sp) ⟨_,0,none⟩ 1 rfl rfl (zr _ _ (aE ⟨x.t,E⟩) _ rfl) (ui _) (by omega) (by simp;omega) ?_;intro v7 w7 k1 k2 k3;have K1:=ze k1;have K2:=ze (((zg (Below.refl w.heap.size wr) _).alloc he (.cells #[O J x.t,O J E] 342)).grown k2 (by simp;omega) (fun k hk=>(HO.o.row.lt k hk).1));clear k1 k2 k3);go_roundw
     case rel=>exact⟨j+1,v7,_,rfl,by omega,by go_num,K1.o,by rw[kC,Jp];first|omega|(simp;done),fun s hs=>(yp.1 hs).elim (h3.o s) (fun h=>by rw[vN.1 h];exact⟨x0,x1,e0,HE.o⟩),HB.o.trans K2.o⟩
     case measure=>simp[intOf];omega
    obtain⟨g,cap,h4,hA,hC,h6,h2,hd⟩:=HO.o.at_ h5;obtain⟨m,hm⟩:∃ m,out.length=m+1:=⟨out.length-1,by omega⟩;obtain⟨z,ha⟩:∃ z,out[m]?=some z:=⟨_,kD (by omega)⟩;have d1:=h2 (m*2+1) _ ((flat_get vi out m 1 z ha (by omega)).trans rfl);have f1:=hd (m*2+1);rw[hm]at h4 h6 h5;subst h4;have HM:=ze hm;have HZ:=ze ha;have hD:m<=10000000:=by omega
    have j0:(0:Int)<=(m:Int):=by omega
    have j1:(m:Int)<(m:Int)+1:=by omega
    clear h2 hd hm ha h5;rcases yd (z.b==x.t)with hq|hq
    ·go_wp2_with fail;go_quiet(fail);go_wp2_with fail;go_roundw
     case rel=>
      have h9:=(HO.o.drewN nq).storeF vi HM.o HZ.o (x':=⟨z.a,E⟩) (u:=O J E) (j:=1) rfl (by omega);exact⟨j+1,_,out.set m ⟨z.a,E⟩,rfl,by omega,by go_num,h9.1,by rw[ye];omega,fun s hs=>(eJ hs).elim (h3.o s) (fun h=>by rw[h];have h8:=h3.o z (jx HZ.o);exact⟨h8.1,h8.2.1,e0,HE.o⟩),HB.o.trans ((zg (Below.refl w.heap.size wr) nq).trans h9.2)⟩
     case measure=>simp[intOf];omega
    ·
     go_wp2_with fail;go_quiet(fail);go_wp2_with(at_builtin;refine kG (P:=prog) rfl _ _ 340 rfl underlying340 Span.info rfl (by omega) (by omega) rfl ((HO.o.drewN _).alloc _) (⟨x.t,E⟩:Sp) ⟨_,0,none⟩ 1 rfl rfl (zr _ _ (aE ⟨x.t,E⟩) _ rfl) (ui _) (by omega) (by simp;omega) ?_;intro v7 w7 k1 k2 k3;have K1:=ze k1;have K2:=ze (((zg (Below.refl w.heap.size wr) _).alloc he (.cells #[O J x.t,O J E] 342)).grown k2 (by simp;omega) (fun k hk=>(HO.o.row.lt k hk).1));clear k1 k2 k3);go_roundw
     case rel=>exact⟨j+1,v7,_,rfl,by omega,by go_num,K1.o,by rw[kC,Jp];first|omega|(simp;done),fun s hs=>(yp.1 hs).elim (h3.o s) (fun h=>by rw[vN.1 h];exact⟨x0,x1,e0,HE.o⟩),HB.o.trans K2.o⟩
     case measure=>simp[intOf];omega
   ·have i2:decide ((j:Int)+1<(n:Int))=false:=by simp;omega
    go_upto_region 8 with(fail);subst d1;rcases yd x.o with ho|ho
    rotate_left
    ·rw[ho]at c3;clear ho;go_wp2_with fail;go_roundw
     case rel=>exact⟨j+1,v,out,rfl,by omega,by go_num,HO.o,by omega,h3.o,HB.o⟩
     case measure=>simp[intOf];omega
    rw[ho]at c3;clear ho;by_cases hE:E<=x.t
    ·
     go_wp2_with fail;go_roundw
     case rel=>exact⟨j+1,v,out,rfl,by omega,by go_num,HO.o,by omega,h3.o,HB.o⟩
     case measure=>simp[intOf];omega
    have hu:decide (E<=x.t)=false:=by simp;omega
    clear hE;rcases ZW out.length with h5|h5
    ·have h7:out=[]:=yj h5;subst h7;obtain⟨sA,sk,h4,-,-⟩:=HO.o.shape;rw[KN]at h4;subst h4;go_wp2_with fail;go_quiet(fail);go_wp2_with(at_builtin;refine kG (P:=prog) rfl _ _ 340 rfl underlying340 Span.info rfl (by omega) (by omega) rfl ((HO.o.drewN _).alloc _) (⟨x.t,E⟩:Sp) ⟨_,0,none⟩ 1 rfl rfl (zr _ _ (aE ⟨x.t,E⟩) _ rfl) (ui _) (by omega) (by simp;omega) ?_;intro v7 w7 k1 k2 k3;have K1:=ze k1;have K2:=ze (((zg (Below.refl w.heap.size wr) _).alloc he (.cells #[O J x.t,O J E] 342)).grown k2 (by simp;omega) (fun k hk=>(HO.o.row.lt k hk).1));clear k1 k2 k3);go_roundw
     case rel=>exact⟨j+1,v7,_,rfl,by omega,by go_num,K1.o,by rw[kC,Jp];first|omega|(simp;done),fun s hs=>(yp.1 hs).elim (h3.o s) (fun h=>by rw[vN.1 h];exact⟨x0,x1,e0,HE.o⟩),HB.o.trans K2.o⟩
     case measure=>simp[intOf];omega
    obtain⟨g,cap,h4,hA,hC,h6,h2,hd⟩:=HO.o.at_ h5;obtain⟨m,hm⟩:∃ m,out.length=m+1:=⟨out.length-1,by omega⟩;obtain⟨z,ha⟩:∃ z,out[m]?=some z:=⟨_,kD (by omega)⟩;have d1:=h2 (m*2+1) _ ((flat_get vi out m 1 z ha (by omega)).trans rfl);have f1:=hd (m*2+1);rw[hm]at h4 h6 h5;subst h4;have HM:=ze hm;have HZ:=ze ha;have hD:m<=10000000:=by omega
    have j0:(0:Int)<=(m:Int):=by omega
    have j1:(m:Int)<(m:Int)+1:=by omega
    clear h2 hd hm ha h5;rcases yd (z.b==x.t)with hq|hq
    ·go_wp2_with fail;go_quiet(fail);go_wp2_with fail;go_roundw
     case rel=>
      have h9:=(HO.o.drewN nq).storeF vi HM.o HZ.o (x':=⟨z.a,E⟩) (u:=O J E) (j:=1) rfl (by omega);exact⟨j+1,_,out.set m ⟨z.a,E⟩,rfl,by omega,by go_num,h9.1,by rw[ye];omega,fun s hs=>(eJ hs).elim (h3.o s) (fun h=>by rw[h];have h8:=h3.o z (jx HZ.o);exact⟨h8.1,h8.2.1,e0,HE.o⟩),HB.o.trans ((zg (Below.refl w.heap.size wr) nq).trans h9.2)⟩
     case measure=>simp[intOf];omega
    ·
     go_wp2_with fail;go_quiet(fail);go_wp2_with(at_builtin;refine kG (P:=prog) rfl _ _ 340 rfl underlying340 Span.info rfl (by omega) (by omega) rfl ((HO.o.drewN _).alloc _) (⟨x.t,E⟩:Sp) ⟨_,0,none⟩ 1 rfl rfl (zr _ _ (aE ⟨x.t,E⟩) _ rfl) (ui _) (by omega) (by simp;omega) ?_;intro v7 w7 k1 k2 k3;have K1:=ze k1;have K2:=ze (((zg (Below.refl w.heap.size wr) _).alloc he (.cells #[O J x.t,O J E] 342)).grown k2 (by simp;omega) (fun k hk=>(HO.o.row.lt k hk).1));clear k1 k2 k3);go_roundw
     case rel=>exact⟨j+1,v7,_,rfl,by omega,by go_num,K1.o,by rw[kC,Jp];first|omega|(simp;done),fun s hs=>(yp.1 hs).elim (h3.o s) (fun h=>by rw[vN.1 h];exact⟨x0,x1,e0,HE.o⟩),HB.o.trans K2.o⟩
     case measure=>simp[intOf];omega
  ·obtain rfl:j=n:=by omega
   have hI:decide ((j:Int)<(j:Int))=false:=by simp
   clear hp;go_wp2_with fail;go_ret;exact⟨_,out,rfl,HO.o,by omega,h3.o,HB.o⟩
end
section
open Go.RowKit HB Go.Maps CalP
namespace HB
section
variable{P:Program}{α:Type}{w:l6}{base:Nat}{e:TypeId}{sz:Nat}{f:α->iZ}{v:Value}{l:List α}
theorem Qp(ty t:TypeId){z:Value}{bytes:Nat}(ht:P.underlying t=some (.slice e))(hinfo:(P.info? e).map (fun i=>(i.zero,i.size,i.bytes))=some (some z,sz,bytes))(hzs:z.cells.size=sz)(hsz:0<sz)(hby:bytes<=1000)
  (hown:Own w base e sz f v l)(ys:List α)(B:Nat)(A:iX)(m c:Nat)(hm:ys.length=m)
  (hr:Rd w B sz A m (ys.flatMap f))(h1:∀ u∈ys.flatMap f,u.oneCell'=true)(hn:l.length<=1000000000)(hm1:m<=1000000000)(hbase:base<=w.heap.size):
  ∃v' w',(Builtin.append_ #[t,t] ty #[v,.slice A m c]).run P w=.ok v' w'/\Own w' base e sz f v' (l++ys)/\Below base w w':=by
 obtain⟨i,hi,hz,h7,h4⟩:=info_parts hinfo;subst hm;rcases A with _|ad
 ·have h5:ys=[]:=by
   rcases ZW ys.length with h0|h0
   ·exact yj h0
   ·obtain⟨b,off,hA,_⟩:=hr.2 h0;cases hA
  subst h5;refine⟨v,w,?_,by simpa using hown,fh⟩;rcases hown.2 with⟨hv,h0⟩|⟨g,cap,cur,hv,_,_,h6,_⟩
  ·rw[hv];simp[Builtin.append_,run_underlying ht,sizeOf,typeInfo,hi,Builtin.lenOf,Builtin.firstCells]
  ·rw[hv];simp[Builtin.append_,run_underlying ht,sizeOf,typeInfo,hi,Builtin.lenOf,Builtin.firstCells,h6,storeCells]
 ·have h2:∀ j u,(ys.flatMap f)[j]?=some u->w.cell? (ad.add j)=some u:=by
   intro j u hu;rcases ZW ys.length with h0|h0
   ·have:ys=[]:=yj h0;subst this;simp at hu
   ·obtain⟨b,off,hA,_,hc⟩:=hr.2 h0;injection hA with hA;subst hA;have:=hc j u hu;unfold Addr.add;split
    ·rename_i hj;subst hj;exact this
    ·exact this
  obtain⟨v',w',h3,k1,k2,-⟩:=run_append_own_at (P:=P) w base t ty e i z sz bytes ht hi hz h7 h4 hzs hsz v l.length (l.flatMap f) hown.row ad ys.length c (ys.flatMap f) hr.1 h2 h1 (by simp only[maxLen];omega) (vD (iK _ hby) (by omega)) hbase;refine⟨v',w',h3,?_,(Below.refl base w).grown k2 hbase (fun k hk=>(hown.row.lt k hk).1)⟩
  show w'.ownsRow base e sz _ (l++ys).length ((l++ys).flatMap f)
  rw[kC,Vs];exact k1
theorem Gx{ops:Array Oper}{o:Oper}{a:Act}{K:Act->l6->Prop}{Q:Exit->Act->l6->Prop}{E:Prop}(hgd:o.guard=none)(s x:Operand)(t:TypeId)
  (ho:o.op=.call {callee:=.builtin .append,args:= #[s,x],argTypes:= #[t,t]})
  {z:Value}{bytes:Nat}(ht:P.underlying t=some (.slice e))(hinfo:(P.info? e).map (fun i=>(i.zero,i.size,i.bytes))=some (some z,sz,bytes))(hzs:z.cells.size=sz)(hsz:0<sz)(hby:bytes<=1000)
  (hs:a.eval s=v)(hown:Own w base e sz f v l)(ys:List α)(B:Nat)(A:iX)(m c:Nat)(hx:a.eval x=.slice A m c)(hm:ys.length=m)
  (hr:Rd w B sz A m (ys.flatMap f))(h1:∀ u∈ys.flatMap f,u.oneCell'=true)
  (hn:l.length<=1000000000)(hm1:m<=1000000000)(hbase:base<=w.heap.size)
  (h:∀ v' w',Own w' base e sz f v' (l++ys)->Below base w w'->K (a.put o.dst v') w'):if Region.wanted o (yielded ops a.tmps)=true then Oper.wp P o a w K Q else E:=by
 have hw:Region.wanted o (yielded ops a.tmps)=true:=by simp[Region.wanted,hgd]
 rw[if_pos hw];obtain⟨v',w',h0,h2,h3⟩:=Qp (P:=P) o.type t ht hinfo hzs hsz hby hown ys B A m c hm hr h1 hn hm1 hbase;unfold Oper.wp execOp;simp only[ho,resolve,invoke,builtin,Sem.run_bind,Sem.run_pure,iE,W9,JF,Vm,hs,hx,h0];exact h v' w' h2 h3
end
end HB
theorem Js(base yb n c:Nat)(Y:List Bu)(i:Nat)(b:Bu)(l:List Lg)(pos:Int)(door:Bool)(w:l6)(h:Way w base yb n c Y i b l)(p0: -1000000<=pos)(p1:pos<=1000000)(ht:b.t+1<=10000000)(hl:l=[]\/∃ x,l[l.length-1]?=some x/\0<l.length/\x.o≠door):
  Calls prog 194 #[.pointer (some ⟨yb,i*3,none⟩),O J pos,.bool door] w fun e w'=>e=.returned (.tuple #[])/\∃ b' l',WayP w base yb n c Y i b 1 w' b' l':=by
 have HW:=ze h;have t0:=h.t0;have HT:=ze (show 0<=b.t/\b.t<=10000000 from⟨h.t0,h.t1⟩);have hg:=h.lt.2;have h2:=h.lt.1;have hn:=h.ll;have h9:=ze (show l.length<=1000000000 by omega);obtain⟨⟨c0,c1,c2⟩,f0,f1,f2⟩:=h.cells;have h8:=ze c2;obtain⟨A,cap,hv,h6,h7⟩:=h.legs.shape;have HO:=ze h.legs;rw[hv]at c0;clear h c2;obtain⟨m,hm⟩:∃ m,m=l.length:=⟨_,rfl⟩;rw[<-hm]at hv c0 h6 h7;have HV:=ze hv;clear hv;rcases hl with hl|⟨x,hx,hc,ha⟩
 ·obtain rfl:m=0:=by rw[hm,hl];rfl
  clear hl h7 hm
  go_in
  go_wp2_with fail
  go_region_law (first|(refine jn (P:=prog) rfl _ _ 266 rfl underlying266 Leg.info rfl (by omega) (by omega) (HV.o.symm) ((HO.o.drew).alloc _) (⟨b.t,pos,0,door⟩:Lg) ⟨_,0,none⟩ 1 rfl rfl (JO _ _ _ rfl _) (uh _) h9.o (by simp;omega) ?_;intro v' w1 k1 k2 k3;have hb:=(Below.refl w.heap.size w).drew.alloc fi (.cells #[O J b.t,O J pos,O J 0,.bool door] 375);have h5:=ze (((HW.o.below hb).leg ⟨HT.o.1,HT.o.2,p0,p1,by simp,by simp⟩ k1 k2 k3 rfl ht).from_ hb);have h0:=ze (k2.block yb (kK h2 hb.size) (fun e=>HW.o.ne yb e.symm rfl));obtain⟨A2,c2,h4,-,-⟩:=Own.shape k1;rw[kC,Jp]at h4;subst h4;have d0:=(vg (a:=⟨yb,i*3,none⟩) h0.o).trans (zf hb c0);have d1:=(vg (a:=⟨yb,i*3+1,none⟩) h0.o).trans (zf hb c1);have d2:=(vg (a:=⟨yb,i*3+2,none⟩) h0.o).trans (zf hb h8.o);have e0:=(xC (a:=⟨yb,i*3,none⟩) h0.o).trans ((hb.frozen (p:=⟨yb,i*3,none⟩) h2).trans f0);have e1:=(xC (a:=⟨yb,i*3+1,none⟩) h0.o).trans ((hb.frozen (p:=⟨yb,i*3+1,none⟩) h2).trans f1);have e2:=(xC (a:=⟨yb,i*3+2,none⟩) h0.o).trans ((hb.frozen (p:=⟨yb,i*3+2,none⟩) h2).trans f2);clear k1 k2 k3 hb))
  all_goals(
   go_wp2_with fail;go_end0;exact⟨rfl,_,_,h5.o⟩)
 ·have ho:0<m:=by omega
  obtain⟨g,cp,h3,hi,hk,-,h1,-⟩:=HO.o.at_ hc;have hA:A=some ⟨g,0,none⟩/\cap=cp:=by rw[HV.o]at h3;simp at h3;exact⟨h3.1,h3.2.2⟩
  obtain⟨rfl,rfl⟩:=hA;obtain⟨j,hj⟩:∃ j,j=m-1:=⟨_,rfl⟩;rw[<-hm,<-hj]at hx;have x3:=h1 (j*4+3) _ ((flat_get jk l j 3 x hx (by omega)).trans rfl);have q0:(0:Int)<(m:Int):=by omega
  have q1:(m:Int)-1=(j:Int):=by omega
  have q2:(j:Int)<(m:Int):=by omega
  have q3:j<m:=by omega
  have q4:j<=10000000:=by omega
  have q5:m<=10000000:=by omega
  have hd:(x.o==door)=false:=by simpa using ha
  have hf:=ze hd;have he:=ze h3;have HJ:=ze hj;clear h1 h7 hx ha h3 hm hj
  go_in
  go_wp2_with fail
  go_region_law (first|(refine jn (P:=prog) rfl _ _ 266 rfl underlying266 Leg.info rfl (by omega) (by omega) (HV.o.symm) ((HO.o.drew).alloc _) (⟨b.t,pos,0,door⟩:Lg) ⟨_,0,none⟩ 1 rfl rfl (JO _ _ _ rfl _) (uh _) h9.o (by simp;omega) ?_;intro v' w1 k1 k2 k3;have hb:=(Below.refl w.heap.size w).drew.alloc fi (.cells #[O J b.t,O J pos,O J 0,.bool door] 375);have h5:=ze (((HW.o.below hb).leg ⟨HT.o.1,HT.o.2,p0,p1,by simp,by simp⟩ k1 k2 k3 rfl ht).from_ hb);have h0:=ze (k2.block yb (kK h2 hb.size) (fun e=>HW.o.ne yb e.symm rfl));obtain⟨A2,c2,h4,-,-⟩:=Own.shape k1;rw[kC,Jp]at h4;subst h4;have d0:=(vg (a:=⟨yb,i*3,none⟩) h0.o).trans (zf hb c0);have d1:=(vg (a:=⟨yb,i*3+1,none⟩) h0.o).trans (zf hb c1);have d2:=(vg (a:=⟨yb,i*3+2,none⟩) h0.o).trans (zf hb h8.o);have e0:=(xC (a:=⟨yb,i*3,none⟩) h0.o).trans ((hb.frozen (p:=⟨yb,i*3,none⟩) h2).trans f0);have e1:=(xC (a:=⟨yb,i*3+1,none⟩) h0.o).trans ((hb.frozen (p:=⟨yb,i*3+1,none⟩) h2).trans f1);have e2:=(xC (a:=⟨yb,i*3+2,none⟩) h0.o).trans ((hb.frozen (p:=⟨yb,i*3+2,none⟩) h2).trans f2);clear k1 k2 k3 hb))
  all_goals(
   go_wp2_with fail;go_end0;exact⟨rfl,_,_,h5.o⟩)
theorem cN{a b:Int}(h0: -1<=a)(h1:a<=1)(h2:0<=b)(h3:b<=10000000): -10000000<=a*b/\a*b<=10000000:=by
 rcases(show a=-1\/a=0\/a=1 by omega)with rfl|rfl|rfl<;>omega
theorem Ys{α:Type}{Y:List α}{i:Nat}{b:α}(h:Y[i]?=some b):Y.set i b=Y:=bT fun j=>by
 rw[vt];split
 ·rename_i e;subst e;split
  ·exact h.symm
  ·rename_i h';exact absurd (qd.1 h).1 h'
 ·rfl
theorem WayP.trans0{w w1 w2:l6}{base yb n c:Nat}{Y:List Bu}{i:Nat}{b b2:Bu}{l l1 l2:List Lg}{k:Int}(h0:Way w base yb n c Y i b l)(h:WayP w base yb n c Y i b 0 w1 b l1)(h':WayP w1 base yb n c Y i b k w2 b2 l2):WayP w base yb n c Y i b k w2 b2 l2:=by
 have:=WayP.trans h0 h (by rw[Ys h0.at_];exact h')
 rwa [Int.zero_add]at this
theorem Yt(base yb n c:Nat)(Y:List Bu)(i:Nat)(b:Bu)(l:List Lg)(pos:Int)(door:Bool)(w:l6)(h:Way w base yb n c Y i b l)(p0: -1000000<=pos)(p1:pos<=1000000)(ht:b.t+1<=10000000)(x:Lg)(hx:l[l.length-1]?=some x)(hl0:0<l.length)(hxo:x.o=door)(hn:b.n≠1\/b.n=1/\(pos-x.p< -1\/1<pos-x.p)):
  Calls prog 194 #[.pointer (some ⟨yb,i*3,none⟩),O J pos,.bool door] w fun e w'=>e=.returned (.tuple #[])/\∃ b' l',WayP w base yb n c Y i b 1 w' b' l':=by
 have HW:=ze h;have t0:=h.t0;have n0:=h.n0;have n1:b.n<=10000000:=by have:=h.n1;have:=h.t1;omega
 have HT:=ze (show 0<=b.t/\b.t<=10000000 from⟨h.t0,h.t1⟩);have HN:=ze (show 0<=b.n/\b.n<=b.t from⟨h.n0,h.n1⟩);have hv:=h.lt.2;have h1:=h.lt.1;have hz:=h.ll;have hg:=ze (show l.length<=1000000000 by omega);have h5:=h.ok x (jx hx);have x0:=h5.p0;have x1:=h5.p1;have x2:=h5.d0;have x3:=h5.d1;obtain⟨⟨c0,c1,c2⟩,f0,f1,f2⟩:=h.cells;have h4:=ze c2;obtain⟨g,cp,h3,hw,hy,-,h0,he⟩:=h.legs.at_ hl0;have ho:=h.ne g (by rw[h3];rfl);have hr:¬ yb=g:=fun e=>ho e.symm
 rw[h3]at c0;have HO:=ze h.legs;clear h;obtain⟨m,hm⟩:∃ m,m=l.length:=⟨_,rfl⟩;rw[<-hm]at h3 c0;obtain⟨j,hj⟩:∃ j,j=m-1:=⟨_,rfl⟩;rw[<-hm,<-hj]at hx;have k1:=h0 (j*4+1) _ ((flat_get jk l j 1 x hx (by omega)).trans rfl);have k2:=h0 (j*4+2) _ ((flat_get jk l j 2 x hx (by omega)).trans rfl);have k3:=h0 (j*4+3) _ ((flat_get jk l j 3 x hx (by omega)).trans rfl);have kf:=he (j*4+2);have q0:(0:Int)<(m:Int):=by omega
 have q1:(m:Int)-1=(j:Int):=by omega
 have q2:(j:Int)<(m:Int):=by omega
 have q3:j<m:=by omega
 have q4:j<=10000000:=by omega
 have q5:m<=10000000:=by omega
 have hd:(x.o==door)=true:=by simpa using hxo
 have HV:=ze (show b.v=.slice (some ⟨g,0,none⟩) m cp from h3);have hu:=ze (show b.v=.slice (some ⟨g,0,none⟩) l.length cp from hm▸h3);have HX:=ze hx;have HM:=ze (show m=l.length from hm);clear h0 he hx h3 hm hj hxo;have h8:=ze (show 0<=b.n+1/\b.n+1<=b.t+1 from by have:=HN.o;omega);rcases hn with hn|⟨hn,hs|hs⟩
 all_goals
  first|have h7:=Y7 hn|have h7:=Ke hn
  have hp:=cN x2 x3 n0 n1;have m1:IntKind.i64.wrap (x.d*b.n)=x.d*b.n:=ae _ (by omega);have m2:IntKind.i64.wrap (x.p+x.d*b.n)=x.p+x.d*b.n:=ae _ (by omega);rcases Int.decEq pos (x.p+x.d*b.n)with hq|hq
  all_goals
   first|(have h9:=Y7 hq;have hi:=ze hq)|(have h9:=Ke hq;have hk:=ze hq)
   clear hp;have HH:=ze hn;clear hn hq
   go_in
   go_wp2_with fail;go_quiet(fail);clear m1 m2;go_wp2_with fail
   try clear h9
   refine zq (w:=w) (fun V2=>Way V2 base yb n c Y i b l/\V2.cell? ⟨yb,i*3,none⟩=some (.slice (some ⟨g,0,none⟩) m cp)/\V2.cell? ⟨yb,i*3+1,none⟩=some (O J b.t)/\V2.cell? ⟨yb,i*3+2,none⟩=some (O J b.n)/\V2.frozen? ⟨yb,i*3,none⟩=false/\V2.frozen? ⟨yb,i*3+1,none⟩=false/\V2.frozen? ⟨yb,i*3+2,none⟩=false/\yb<V2.heap.size) ⟨HW.o.below (zg fh _),by simpa using c0,by simpa using c1,by simpa using h4.o,by simpa using f0,by simpa using f1,by simpa using f2,by simpa using h1⟩ (zg fh _) ?_;clear c0 c1 f0 f1 f2 h1 h4 HO HW;rintro V2 ⟨ha,c0,c1,c2,f0,f1,f2,h1⟩ hc;have HW:=ze ha;have h6:=ze hc;have h4:=ze c2;clear ha hc;have HO:=ze HW.o.legs
   first
    |(clear hi;go_region;all_goals(go_wp2_with fail;exact bodyPost_ret (results_none rfl _ _ _) rfl ⟨rfl,_,_,(((HW.o.below fh.drew).two rfl h8.o.1 h8.o.2 ht).from_ h6.o.drew)⟩))
    |(clear hk;clear c2;go_region_law (first|(refine jn (P:=prog) rfl _ _ 266 rfl underlying266 Leg.info rfl (by omega) (by omega) (HV.o.symm) ((HO.o.drew).alloc _) (⟨b.t,pos,0,door⟩:Lg) ⟨_,0,none⟩ 1 rfl rfl (JO _ _ _ rfl _) (uh _) hg.o (by simp;omega) ?_;intro v' w1 k1 k2 k3;have hb:=(Below.refl V2.heap.size V2).drew.alloc fi (.cells #[O J b.t,O J pos,O J 0,.bool door] 375);have hl:=ze (((HW.o.below hb).leg ⟨HT.o.1,HT.o.2,p0,p1,by simp,by simp⟩ k1 k2 k3 rfl ht).from_ (h6.o.trans (hb.mono h6.o.size)));have h2:=ze (k2.block yb (kK h1 hb.size) (fun e=>HW.o.ne yb e.symm rfl));obtain⟨A2,c2,hf,-,-⟩:=Own.shape k1;rw[kC,Jp]at hf;subst hf;have d0:=(vg (a:=⟨yb,i*3,none⟩) h2.o).trans (zf hb c0);have d1:=(vg (a:=⟨yb,i*3+1,none⟩) h2.o).trans (zf hb c1);have d2:=(vg (a:=⟨yb,i*3+2,none⟩) h2.o).trans (zf hb h4.o);have e0:=(xC (a:=⟨yb,i*3,none⟩) h2.o).trans ((hb.frozen (p:=⟨yb,i*3,none⟩) h1).trans f0);have e1:=(xC (a:=⟨yb,i*3+1,none⟩) h2.o).trans ((hb.frozen (p:=⟨yb,i*3+1,none⟩) h1).trans f1);have e2:=(xC (a:=⟨yb,i*3+2,none⟩) h2.o).trans ((hb.frozen (p:=⟨yb,i*3+2,none⟩) h1).trans f2);clear k1 k2 k3 hb));all_goals(go_wp2_with fail;go_end0;exact⟨rfl,_,_,(hl.o)⟩))
theorem bg(base yb n c:Nat)(Y:List Bu)(i:Nat)(b:Bu)(l:List Lg)(pos:Int)(door:Bool)(w:l6)(h:Way w base yb n c Y i b l)(p0: -1000000<=pos)(p1:pos<=1000000)(ht:b.t+1<=10000000)(x:Lg)(hx:l[l.length-1]?=some x)(hl0:0<l.length)(hxo:x.o=door)(hn:b.n=1)(d0: -1<=pos-x.p)(d1:pos-x.p<=1):
  Calls prog 194 #[.pointer (some ⟨yb,i*3,none⟩),O J pos,.bool door] w fun e w'=>e=.returned (.tuple #[])/\∃ b' l',WayP w base yb n c Y i b 1 w' b' l':=by
 have HW:=ze h;have t0:=h.t0;have n0:=h.n0;have n1:b.n<=10000000:=by have:=h.n1;have:=h.t1;omega
 have HT:=ze (show 0<=b.t/\b.t<=10000000 from⟨h.t0,h.t1⟩);have HN:=ze (show 0<=b.n/\b.n<=b.t from⟨h.n0,h.n1⟩);have hu:=h.lt.2;have hk:=h.lt.1;have hy:=h.ll;have ho:=ze (show l.length<=1000000000 by omega);have h5:=h.ok x (jx hx);have x0:=h5.p0;have x1:=h5.p1;have x2:=h5.d0;have x3:=h5.d1;obtain⟨⟨c0,c1,c2⟩,f0,f1,f2⟩:=h.cells;have h2:=ze c2;obtain⟨g,cp,h3,hv,hw,-,h0,hi⟩:=h.legs.at_ hl0;have h4:=h.ne g (by rw[h3];rfl);have hs:¬ yb=g:=fun e=>h4 e.symm
 rw[h3]at c0;have HO:=ze h.legs;clear h;obtain⟨m,hm⟩:∃ m,m=l.length:=⟨_,rfl⟩;rw[<-hm]at h3 c0;obtain⟨j,hj⟩:∃ j,j=m-1:=⟨_,rfl⟩;rw[<-hm,<-hj]at hx;have k1:=h0 (j*4+1) _ ((flat_get jk l j 1 x hx (by omega)).trans rfl);have k2:=h0 (j*4+2) _ ((flat_get jk l j 2 x hx (by omega)).trans rfl);have k3:=h0 (j*4+3) _ ((flat_get jk l j 3 x hx (by omega)).trans rfl);have kf:=hi (j*4+2);have q0:(0:Int)<(m:Int):=by omega
 have q1:(m:Int)-1=(j:Int):=by omega
 have q2:(j:Int)<(m:Int):=by omega
 have q3:j<m:=by omega
 have q4:j<=10000000:=by omega
 have q5:m<=10000000:=by omega
 have hd:(x.o==door)=true:=by simpa using hxo
 have HV:=ze (show b.v=.slice (some ⟨g,0,none⟩) m cp from h3);have hr:=ze (show b.v=.slice (some ⟨g,0,none⟩) l.length cp from hm▸h3);have HX:=ze hx;have HM:=ze (show m=l.length from hm);clear h0 hi hx h3 hm hj hxo;have h8:=ze (show 0<=b.n+1/\b.n+1<=b.t+1 from by have:=HN.o;omega);have h7:(b.n==1)=true:=by simpa using hn
 have m1:IntKind.i64.wrap ((pos-x.p)*b.n)=pos-x.p:=by rw[hn,Int.mul_one];exact ae _ (by omega)
 have m1':IntKind.i64.wrap ((pos-x.p)*1)=pos-x.p:=by rw[Int.mul_one];exact ae _ (by omega)
 have m2:IntKind.i64.wrap (x.p+(pos-x.p))=pos:=by rw[show x.p+(pos-x.p)=pos by omega];exact ae _ (by omega)
 have HH:=ze hn;clear hn;have hc:=ze (HW.o.turn hr.o HX.o d0 d1)
 go_in
 go_wp2_with fail;have d0:=(Zm w ⟨g,j*4+2,none⟩ ⟨yb,i*3,none⟩ (O J (pos-x.p)) (by simp[h4])).trans c0;have d1:=(Zm w ⟨g,j*4+2,none⟩ ⟨yb,i*3+1,none⟩ (O J (pos-x.p)) (by simp[h4])).trans c1;have d2:=(Zm w ⟨g,j*4+2,none⟩ ⟨yb,i*3+2,none⟩ (O J (pos-x.p)) (by simp[h4])).trans h2.o;have d3:=(Zm w ⟨g,j*4+2,none⟩ ⟨g,j*4+1,none⟩ (O J (pos-x.p)) (by simp)).trans k1;have d4:=ff k2 (O J (pos-x.p));have hf:But (fun q=>q=g) w (w.setCell ⟨g,j*4+2,none⟩ (O J (pos-x.p))):=(But.refl (fun q=>q=g) w).at1 rfl _ _;have e0:=(yD w ⟨g,j*4+2,none⟩ _ (O J (pos-x.p))).trans f0;have e1:=(yD w ⟨g,j*4+2,none⟩ _ (O J (pos-x.p))).trans f1;have e2:=(yD w ⟨g,j*4+2,none⟩ _ (O J (pos-x.p))).trans f2;have h1:=kK hk hf.size;refine zq (w:=w.setCell ⟨g,j*4+2,none⟩ (O J (pos-x.p))) (fun V=>WayP w base yb n c Y i b 0 V b (l.set j {x with d:=pos-x.p})/\V.cell? ⟨yb,i*3,none⟩=some (.slice (some ⟨g,0,none⟩) m cp)/\V.cell? ⟨yb,i*3+1,none⟩=some (O J b.t)/\V.cell? ⟨yb,i*3+2,none⟩=some (O J b.n)/\V.cell? ⟨g,j*4+1,none⟩=some (O J x.p)/\V.cell? ⟨g,j*4+2,none⟩=some (O J (pos-x.p))/\V.frozen? ⟨yb,i*3,none⟩=false/\V.frozen? ⟨yb,i*3+1,none⟩=false/\V.frozen? ⟨yb,i*3+2,none⟩=false/\yb<V.heap.size) ⟨hc.o,d0,d1,d2,d3,d4,e0,e1,e2,h1⟩ fh ?_;clear d0 d1 d2 d3 d4 e0 e1 e2 h1 hf;have ha:=ze HW.o;clear HW;rintro V ⟨h6,d0,d1,d2,d3,d4,e0,e1,e2,h1⟩ -;clear c0 c1 c2 k1 k2 k3 kf f0 f1 f2 h2 hc;have hq:=ze h6;have HW:=ze (show Way V base yb n c Y i b (l.set j {x with d:=pos-x.p})from(show Y.set i b=Y from Ys ha.o.at_)▸h6.way);have h2:=ze d2;have hp:=ze (show(l.set j {x with d:=pos-x.p}).length<=1000000000 by rw[ye];exact ho.o);clear h6;have HO:=ze HW.o.legs;go_quiet(fail);clear m1 m2;go_wp2_with fail
 try clear h9
 refine zq (w:=V) (fun V2=>Way V2 base yb n c Y i b (l.set j {x with d:=pos-x.p})/\V2.cell? ⟨yb,i*3,none⟩=some (.slice (some ⟨g,0,none⟩) m cp)/\V2.cell? ⟨yb,i*3+1,none⟩=some (O J b.t)/\V2.cell? ⟨yb,i*3+2,none⟩=some (O J b.n)/\V2.frozen? ⟨yb,i*3,none⟩=false/\V2.frozen? ⟨yb,i*3+1,none⟩=false/\V2.frozen? ⟨yb,i*3+2,none⟩=false/\yb<V2.heap.size) ⟨HW.o.below (zg fh _),by simpa using d0,by simpa using d1,by simpa using h2.o,by simpa using e0,by simpa using e1,by simpa using e2,by simpa using h1⟩ (zg fh _) ?_;clear d0 d1 e0 e1 e2 h1 h2 HO HW;rintro V2 ⟨he,c0,c1,c2,f0,f1,f2,hk⟩ hg;have HW:=ze he;have hl:=ze hg;have h2:=ze c2;clear he hg;have HO:=ze HW.o.legs;go_region
 all_goals(
  go_wp2_with fail;exact bodyPost_ret (results_none rfl _ _ _) rfl ⟨rfl,_,_,WayP.trans0 ha.o hq.o (((HW.o.below fh.drew).two rfl h8.o.1 h8.o.2 ht).from_ hl.o.drew)⟩)
theorem Uv(base yb n c:Nat)(Y:List Bu)(i:Nat)(b:Bu)(l:List Lg)(pos:Int)(door:Bool)(w:l6)(h:Way w base yb n c Y i b l)(p0: -1000000<=pos)(p1:pos<=1000000)(ht:b.t+1<=10000000):
  Calls prog 194 #[.pointer (some ⟨yb,i*3,none⟩),O J pos,.bool door] w fun e w'=>e=.returned (.tuple #[])/\∃ b' l',WayP w base yb n c Y i b 1 w' b' l':=by
 rcases ZW l.length with h0|h0
 ·exact Js base yb n c Y i b l pos door w h p0 p1 ht (.inl (yj h0))
 ·have hx:l[l.length-1]?=some (l[l.length-1]'(by omega)):=kD _;generalize l[l.length-1]'(by omega)=x at hx;by_cases hd:x.o=door
  ·by_cases hn:b.n=1
   ·by_cases h1: -1<=pos-x.p/\pos-x.p<=1
    ·exact bg base yb n c Y i b l pos door w h p0 p1 ht x hx h0 hd hn h1.1 h1.2
    ·exact Yt base yb n c Y i b l pos door w h p0 p1 ht x hx h0 hd (.inr ⟨hn,by omega⟩)
   ·exact Yt base yb n c Y i b l pos door w h p0 p1 ht x hx h0 hd (.inl hn)
  ·exact Js base yb n c Y i b l pos door w h p0 p1 ht (.inr ⟨x,hx,h0,hd⟩)
theorem Way.twoK{w:l6}{base yb n c:Nat}{Y:List Bu}{i:Nat}{b:Bu}{l:List Lg}(h:Way w base yb n c Y i b l){k:Int}(hk:0<=k)(hy1:b.t+k<=10000000):
  WayP w base yb n c Y i b k ((w.setCell ⟨yb,i*3+1,none⟩ (O J (b.t+k))).setCell ⟨yb,i*3+2,none⟩ (O J (b.n+k))) ⟨b.v,b.t+k,b.n+k⟩ l:=by
 have h1:=h.setT (b.t+k);have hi:=(qd.1 h.at_).1;have h2:=(h1.storeF qg (by rw[ye];exact h.len) (z:=i) (j:=2) (x:={b with t:=b.t+k}) (x':=⟨b.v,b.t+k,b.n+k⟩) (u:=O J (b.n+k)) (by rw[vt];simp[hi]) rfl (by omega)).1;rw[cW]at h2;have h0:But (fun q=>q=yb) w ((w.setCell ⟨yb,i*3+1,none⟩ (O J (b.t+k))).setCell ⟨yb,i*3+2,none⟩ (O J (b.n+k))):=((But.refl (fun q=>q=yb) w).at1 rfl _ _).at1 rfl _ _;refine⟨⟨h2,by rw[ye];exact h.len,by rw[vt];simp[hi],Own.but h.legs h0 (fun k hk=>h.ne k hk),h.ne,h.ok,by simp only;have:=h.t0;omega,by simp only;omega,by simp only;have:=h.n0;omega,by simp only;have:=h.n1;omega,by simp only;have:=h.ll;omega⟩,rfl,h0.mono (fun q _ hq=>.inl hq),fun q hq=>.inl hq⟩
theorem Way.trans2{W w1 w2:l6}{base yb n c:Nat}{Y:List Bu}{i:Nat}{b b1 b2:Bu}{l l1 l2:List Lg}{j:Nat}(h0:Way W base yb n c Y i b l)(h:WayP W base yb n c Y i b j w1 b1 l1)(h':WayP w1 base yb n c (Y.set i b1) i b1 1 w2 b2 l2):WayP W base yb n c Y i b ((j+1:Nat):Int) w2 b2 l2:=by
 have:=WayP.trans h0 h h'
 rwa [show((j+1:Nat):Int)=(j:Int)+1 by omega]
theorem bh{a b:Int}(h0: -1<=a)(h1:a<=1)(h2:0<=b)(h3:b<=3): -3<=a*b/\a*b<=3:=by
 rcases(show a=-1\/a=0\/a=1 by omega)with rfl|rfl|rfl<;>omega
theorem Jt(base yb n c:Nat)(Y:List Bu)(i:Nat)(b:Bu)(l:List Lg)(pos d N:Int)(door:Bool)(w:l6)(h:Way w base yb n c Y i b l)(p0: -100000<=pos)(p1:pos<=100000)(d0: -1<=d)(d1:d<=1)(N0:0<=N)(N1:N<=1000000)(ht:b.t+N<=10000000):
  Calls prog 144 #[.pointer (some ⟨yb,i*3,none⟩),.agg #[O J pos,O J d,O J N,.bool door]] w fun e w'=>e=.returned (.tuple #[])/\∃ b' l',WayP w base yb n c Y i b N w' b' l':=by
 have h6:=ze h;clear h
 go_in
 go_wp2_with fail;have HB:=ze ((Below.refl w.heap.size w).alloc fi (.cells #[O J pos,O J d,O J N,.bool door] 272));have HX:=ze (Bx.new w [O J pos,O J d,O J N,.bool door] 272);have hp:w.heap.size<(w.alloc (.cells #[O J pos,O J d,O J N,.bool door] 272)).heap.size:=by simp
 have h7:=ze (h6.o.below HB.o);have ho:=h6.o.lt.1;have h8:=ze (fun q(hq:b.v.ownBlock=some q)=>(h6.o.legs.row.lt q hq).2);generalize w.alloc (.cells #[O J pos,O J d,O J N,.bool door] 272)=W at*;generalize hr:w.heap.size=r at*
 go_loopw [4] (fun k wr=>∃(j:Nat)(b1:Bu)(l1:List Lg),k=O J j/\(j:Int)<=3/\(j:Int)<=N/\Bx wr r [O J pos,O J d,O J N,.bool door]/\WayP W base yb n c Y i b j wr b1 l1) (fun k _=>3-(intOf k).toNat)
 case atStart=>exact⟨0,b,l,rfl,by omega,by omega,HX.o,WayP.refl h7.o⟩
 case round=>
  obtain⟨j,b1,l1,rfl,hk,hv,h9,h2⟩:=hrel;have h0:=ze h2;have hf:=ze h9;have he:b1.t=b.t+j:=h2.t;have ha:r<wr.heap.size:=kK hp h2.but.size;obtain⟨⟨c0,c1,c2,c3⟩,-⟩:=h9.o4;have hm:=bh d0 d1 (show(0:Int)<=(j:Int) by omega) hk;have hl:=h2.way.lt.1;have hd:=ze he;clear h2 h9 he;by_cases hc:(j:Int)<N/\(j:Int)<3
  ·obtain⟨hs,hu⟩:=hc;have hj:j<3:=by omega
   have H1:=ze (Uv base yb n c (Y.set i b1) i b1 l1 (pos+d*(j:Int)) door wr h0.o.way (by omega) (by omega) (by rw[hd.o];omega));go_wp2_with(go_at_call 194;refine H1.o.mono ?_;rintro e w2 ⟨rfl,b2,l2,hP⟩;have hg:=ze (h7.o.trans2 h0.o hP);have h4:=ze (hf.o.but hP.but ha (fun hx=>by rcases hx with hx|hx;exact absurd hx (by omega);rcases h0.o.new _ hx with h3|h3;exact absurd (h8.o _ h3) (by omega);omega));clear hP);go_roundw
   case rel=>exact⟨j+1,b2,l2,by go_num,by omega,by omega,h4.o,hg.o⟩
   case measure=>simp[intOf];omega
  ·by_cases hN:(j:Int)<N
   ·obtain rfl:j=3:=by omega
    clear hc;have hi:=ze (h0.o.way.twoK (k:=N-3) (by omega) (by rw[hd.o];omega));obtain⟨⟨e0,e1,e2⟩,f0,f1,f2⟩:=h0.o.way.cells;have t0:=h0.o.way.t0;have t1:=h0.o.way.t1;have n0:=h0.o.way.n0;have n1:=h0.o.way.n1;have hw:¬ r=yb:=by omega
    have hn:¬ yb=r:=by omega
    go_wp2_with fail;go_region;go_wp2_with fail;go_region;go_wp2_with fail;have h1:=(WayP.trans h7.o h0.o (hi.o.below (w2:=((wr.setCell ⟨yb,i*3+1,none⟩ (O J (b1.t+(N-3)))).setCell ⟨yb,i*3+2,none⟩ (O J (b1.n+(N-3)))).drew.drew) fh.drew.drew)).from_ (hr▸HB.o);rw[show((3:Nat):Int)+(N-3)=N by omega]at h1;have h5:=ze h1;clear h1;go_end0;exact⟨rfl,_,_,h5.o⟩
   ·obtain rfl:N=(j:Int):=by omega
    have hj:¬ ((j:Int)<(j:Int)):=by omega
    clear hc hN;go_wp2_with fail;go_end0;exact⟨rfl,b1,l1,h0.o.from_ (Eq.subst (motive:=fun n=>Below n w _) hr.symm HB.o)⟩
end
section
open Go.RowKit HB
theorem GP(l:List Lg):∀ u∈l.flatMap QX,u.oneCell'=true:=by
 intro u hu;obtain⟨g,-,h⟩:=iW.1 hu;exact uh g u h
theorem QB(q o:Nat)(A:iX)(n k B:Nat)(l:List Lg)(w:l6)(hc:w.cell? ⟨q,o,none⟩=some (.slice A n k))(hr:Rd w B 4 A n (l.flatMap QX))(hl:l.length=n)(hB:B<=w.heap.size)(hn:n<=1000000):
  Calls prog 316 #[.pointer (some ⟨q,o,none⟩)] w fun e w'=>∃ v,e=.returned v/\Own w' w.heap.size 375 4 QX v l/\fj w w':=by
 have HR:=ze hr;have HL:=ze hl;clear hr hl
 go_in
 go_wp2_with(at_builtin;refine qe rfl _ _ 266 rfl underlying266 Leg.info rfl (by omega) (by omega) rfl (Own.nil w w.heap.size 375 4 QX) l B A n k rfl HL.o HR.o (GP _) (by simp) (by omega) fi ?_;intro v1 w1 h0 h1);go_ret;exact⟨_,rfl,h0,h1⟩
end
end Go.Proofs.YtdeogmbfgkepeaaGreatDoor
