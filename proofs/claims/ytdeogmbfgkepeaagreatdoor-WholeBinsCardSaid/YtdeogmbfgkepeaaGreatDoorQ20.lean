/- Contracts that WholeBins needs. Each tells its conditions. -/
import Derived.Maps.AppendAt
import Derived.Test.YtdeogmbfgkepeaaGreatDoorQ19
set_option linter.unusedVariables false
set_option linter.unusedSimpArgs false
set_option maxRecDepth 100000
set_option maxHeartbeats 64000000
namespace Go.Proofs.YtdeogmbfgkepeaaGreatDoor
open Go.Proofs.Tryz
open Go.Value renaming int->O
open Go.IntKind renaming i64->J
section
open Go.RowKit HB
namespace HB
theorem ZZ{P:Program}{α:Type}{w:World}{base:Nat}{e:TypeId}{sz:Nat}{f:α->List Value}{v:Value}{l:List α}(t:TypeId){z:Value}{bytes:Nat}(ht:P.underlying t=some (.slice e))(hinfo:(P.info? e).map (fun i=>(i.zero,i.size,i.bytes))=some (some z,sz,bytes))(hzs:z.cells.size=sz)(hsz:0<sz)(hby:bytes<=1000)
  (hown:Own w base e sz f v l)(y:α)(ad:Addr)(c:Nat)(hl:(f y).length=sz)(hc:∀ j u,(f y)[j]?=some u->w.cell? (ad.add j)=some u)(h1:∀ u∈f y,u.oneCell'=true)
  (hn:l.length<=1000000000)(hbase:base<=w.heap.size):
  ∀ty,∃v' w',(Builtin.append_ #[t,t] ty #[v,.slice (some ad) 1 c]).run P w=.ok v' w'/\Own w' base e sz f v' (l++[y])/\w.grownBy w' v.ownBlock/\(v'.ownBlock=v.ownBlock\/v'.ownBlock=some w.heap.size):=by
 intro ty;obtain⟨i,hi,hz,hzz,hbb⟩:=info_parts hinfo;obtain⟨v',w',hrun,k1,k2,-,k3⟩:=run_append_own_at (P:=P) w base t ty e i z sz bytes ht hi hz hzz hbb hzs hsz v l.length (l.flatMap f) hown.row ad 1 c (f y) (by rw[hl,Nat.one_mul]) hc h1 (by simp only[maxLen];omega) (Nat.le_trans (Nat.mul_le_mul_left _ hby) (by omega)) hbase;refine⟨v',w',hrun,?_,k2,k3⟩
 show w'.ownsRow base e sz _ (l++[y]).length ((l++[y]).flatMap f)
 simpa using k1
theorem jn{P:Program}{α:Type}{w:World}{base:Nat}{e:TypeId}{sz:Nat}{f:α->List Value}{v:Value}{l:List α}{ops:Array Oper}{o:Oper}{a:Act}{K:Act->World->Prop}{Q:Exit->Act->World->Prop}{E:Prop}(hgd:o.guard=none)(s x:Operand)(t:TypeId)
  (ho:o.op=.call {callee:=.builtin .append,args:= #[s,x],argTypes:= #[t,t]})
  {z:Value}{bytes:Nat}(ht:P.underlying t=some (.slice e))(hinfo:(P.info? e).map (fun i=>(i.zero,i.size,i.bytes))=some (some z,sz,bytes))(hzs:z.cells.size=sz)(hsz:0<sz)(hby:bytes<=1000)
  (hs:a.eval s=v)(hown:Own w base e sz f v l)(y:α)(ad:Addr)(c:Nat)(hx:a.eval x=.slice (some ad) 1 c)(hl:(f y).length=sz)(hc:∀ j u,(f y)[j]?=some u->w.cell? (ad.add j)=some u)(h1:∀ u∈f y,u.oneCell'=true)
  (hn:l.length<=1000000000)(hbase:base<=w.heap.size)
  (h:∀ v' w',Own w' base e sz f v' (l++[y])->w.grownBy w' v.ownBlock->(v'.ownBlock=v.ownBlock\/v'.ownBlock=some w.heap.size)->K (a.put o.dst v') w'):if Region.wanted o (yielded ops a.tmps)=true then Oper.wp P o a w K Q else E:=by
 have hw:Region.wanted o (yielded ops a.tmps)=true:=by simp[Region.wanted,hgd]
 rw[if_pos hw];obtain⟨v',w',hr',h2,h3,h4⟩:=ZZ (P:=P) t ht hinfo hzs hsz hby hown y ad c hl hc h1 hn hbase o.type;unfold Oper.wp execOp;simp only[ho,resolve,invoke,builtin,Sem.run_bind,Sem.run_pure,Result.andThen_ok,List.map_toArray,List.map_cons,List.map_nil,hs,hx,hr'];exact h v' w' h2 h3 h4
end HB
end
section
open Go.RowKit HB Go.Maps CalP
theorem HB.Own.but{α:Type}{f:α->List Value}{base sz:Nat}{e:TypeId}{v:Value}{l:List α}{w w':World}{X:Nat->Prop}(h:Own w base e sz f v l)(hb:But X w w')(hx:∀ k,v.ownBlock=some k->¬ X k):Own w' base e sz f v l:=by
 rcases h with⟨h1,h2⟩;refine⟨h1,?_⟩;rcases h2 with h2|⟨g,cap,cur,hv,hb',hg,rest⟩
 ·exact .inl h2
 ·exact .inr ⟨g,cap,cur,hv,hb',(hb.block g (Array.getElem?_eq_some_iff.1 hg).1 (hx g (by rw[hv];rfl))).trans hg,rest⟩
theorem HB.But.at1{X:Nat->Prop}{w w':World}(h:But X w w'){q:Nat}(hq:X q)(o:Nat)(u:Value):But X w (w'.setCell ⟨q,o,none⟩ u):=h.set (a:=⟨q,o,none⟩) (.inl hq) u
structure Lg where
 (t p d:Int)
 o:Bool
deriving Inhabited
abbrev QX(g:Lg):List Value:=[O J g.t,O J g.p,O J g.d,.bool g.o]
structure Lg.ok(g:Lg):Prop where
 t0:0<=g.t
 t1:g.t<=10000000
 p0: -1000000<=g.p
 p1:g.p<=1000000
 d0: -1<=g.d
 d1:g.d<=1
structure Bu where
 v:Value
 (t n:Int)
instance:Inhabited Bu:=⟨⟨.slice none 0 0,0,0⟩⟩
abbrev aD(b:Bu):List Value:=[b.v,O J b.t,O J b.n]
theorem Leg.info:(prog.info? 375).map (fun i=>(i.zero,i.size,i.bytes))=some (some (.agg #[O J 0,O J 0,O J 0,.bool false]),4,32):=by kernel_rfl
theorem uh(g:Lg):∀ u∈QX g,u.oneCell'=true:=by simp[QX,Value.oneCell']
theorem jk(g:Lg):(QX g).length=4:=rfl
theorem qg(b:Bu):(aD b).length=3:=rfl
structure Way(w:World)(base yb n c:Nat)(Y:List Bu)(i:Nat)(b:Bu)(l:List Lg):Prop where
 own:Own w base 268 3 aD (.slice (some ⟨yb,0,none⟩) n c) Y
 len:Y.length=n
 at_:Y[i]?=some b
 legs:Own w base 375 4 QX b.v l
 ne:∀ k,b.v.ownBlock=some k->k≠yb
 ok:∀ g∈l,g.ok
 t0:0<=b.t
 t1:b.t<=10000000
 n0:0<=b.n
 n1:b.n<=b.t
 ll:(l.length:Int)<=b.t
structure WayP(w:World)(base yb n c:Nat)(Y:List Bu)(i:Nat)(b:Bu)(k:Int)(w':World)(b':Bu)(l':List Lg):Prop where
 way:Way w' base yb n c (Y.set i b') i b' l'
 t:b'.t=b.t+k
 but:But (fun q=>q=yb\/b.v.ownBlock=some q) w w'
 new:∀ q,b'.v.ownBlock=some q->b.v.ownBlock=some q\/w.heap.size<=q
section
variable{w w':World}{base yb n c:Nat}{Y:List Bu}{i:Nat}{b:Bu}{l:List Lg}
theorem Way.lt(h:Way w base yb n c Y i b l):yb<w.heap.size/\base<=yb:=⟨(h.own.row.lt yb rfl).2,(h.own.row.lt yb rfl).1⟩
theorem Way.in_(h:Way w base yb n c Y i b l):i<n:=by
 have:=(List.getElem?_eq_some_iff.1 h.at_).1;rw[h.len]at this;exact this
theorem Way.cells(h:Way w base yb n c Y i b l):(w.cell? ⟨yb,i*3,none⟩=some b.v/\w.cell? ⟨yb,i*3+1,none⟩=some (O J b.t)/\w.cell? ⟨yb,i*3+2,none⟩=some (O J b.n))/\w.frozen? ⟨yb,i*3,none⟩=false/\w.frozen? ⟨yb,i*3+1,none⟩=false/\w.frozen? ⟨yb,i*3+2,none⟩=false:=by
 have h0:=h.own.elem_cell qg h.len h.at_ (show 0<3 by omega) rfl;have h1:=h.own.elem_cell qg h.len h.at_ (show 1<3 by omega) rfl;have h2:=h.own.elem_cell qg h.len h.at_ (show 2<3 by omega) rfl;exact⟨⟨h0.1,h1.1,h2.1⟩,h0.2,h1.2,h2.2⟩
theorem Way.drew(h:Way w base yb n c Y i b l):Way w.drew base yb n c Y i b l:=⟨h.own.drew,h.len,h.at_,h.legs.drew,h.ne,h.ok,h.t0,h.t1,h.n0,h.n1,h.ll⟩
theorem Way.below(h:Way w base yb n c Y i b l)(hb:fj w w'):Way w' base yb n c Y i b l:=⟨h.own.below hb,h.len,h.at_,h.legs.below hb,h.ne,h.ok,h.t0,h.t1,h.n0,h.n1,h.ll⟩
theorem WayP.refl(h:Way w base yb n c Y i b l):WayP w base yb n c Y i b 0 w b l:=
 ⟨by rw[show Y.set i b=Y from List.ext_getElem? fun j=>by
   rw[List.getElem?_set];split
   ·rename_i e;subst e;split
    ·exact h.at_.symm
    ·rename_i h';exact absurd (List.getElem?_eq_some_iff.1 h.at_).1 h'
   ·rfl];exact h,by omega,But.refl _ _,fun _ h=>.inl h⟩
theorem WayP.trans{w1 w2:World}{b1 b2:Bu}{l1 l2:List Lg}{k m:Int}(h0:Way w base yb n c Y i b l)(h:WayP w base yb n c Y i b k w1 b1 l1)(h':WayP w1 base yb n c (Y.set i b1) i b1 m w2 b2 l2):WayP w base yb n c Y i b (k+m) w2 b2 l2:=
 ⟨by have:=h'.way;rw[List.set_set]at this;exact this,by rw[h'.t,h.t];omega,
  h.but.trans h'.but (fun q hq hx=>by
  rcases hx with hx|hx
  ·exact .inl hx
  ·rcases h.new q hx with h1|h1
   ·exact .inr h1
   ·omega),
  fun q hq=>by
  rcases h'.new q hq with h1|h1
  ·exact h.new q h1
  ·exact .inr (Nat.le_trans h.but.size h1)⟩
theorem WayP.below{w2:World}{b1:Bu}{l1:List Lg}{k:Int}(h:WayP w base yb n c Y i b k w' b1 l1)(hb:Below w'.heap.size w' w2):WayP w base yb n c Y i b k w2 b1 l1:=
 ⟨h.way.below hb,h.t,h.but.then_ hb,h.new⟩
theorem WayP.from_{w0:World}{b1:Bu}{l1:List Lg}{k:Int}(hb:fj w w0)(h:WayP w0 base yb n c Y i b k w' b1 l1):WayP w base yb n c Y i b k w' b1 l1:=
 ⟨h.way,h.t,(But.of_below hb).trans h.but (fun _ _ h=>h),fun q hq=>(h.new q hq).imp id (fun h=>Nat.le_trans hb.size h)⟩
theorem Way.setT(h:Way w base yb n c Y i b l)(y:Int):Own (w.setCell ⟨yb,i*3+1,none⟩ (O J y)) base 268 3 aD (.slice (some ⟨yb,0,none⟩) n c) (Y.set i {b with t:=y}):=
 (h.own.storeF qg h.len h.at_ (x':={b with t:=y}) rfl (by omega)).1
theorem Way.two(h:Way w base yb n c Y i b l){y z:Int}(hy:y=b.t+1)(hz0:0<=z)(hz1:z<=y)(hy1:b.t+1<=10000000):
  WayP w base yb n c Y i b 1 ((w.setCell ⟨yb,i*3+1,none⟩ (O J y)).setCell ⟨yb,i*3+2,none⟩ (O J z)) ⟨b.v,y,z⟩ l:=by
 have h1:=h.setT y;have hi:=(List.getElem?_eq_some_iff.1 h.at_).1;have h2:=(h1.storeF qg (by rw[List.length_set];exact h.len) (z:=i) (j:=2) (x:={b with t:=y}) (x':=⟨b.v,y,z⟩) (u:=O J z) (by rw[List.getElem?_set];simp[hi]) rfl (by omega)).1;rw[List.set_set]at h2;have hb:But (fun q=>q=yb\/b.v.ownBlock=some q) w ((w.setCell ⟨yb,i*3+1,none⟩ (O J y)).setCell ⟨yb,i*3+2,none⟩ (O J z)):=((But.refl _ w).at1 (.inl rfl) _ _).at1 (.inl rfl) _ _;have hb2:But (fun q=>q=yb) w ((w.setCell ⟨yb,i*3+1,none⟩ (O J y)).setCell ⟨yb,i*3+2,none⟩ (O J z)):=((But.refl (fun q=>q=yb) w).at1 rfl _ _).at1 rfl _ _;refine⟨⟨h2,by rw[List.length_set];exact h.len,by rw[List.getElem?_set];simp[hi],Own.but h.legs hb2 (fun k hk=>h.ne k hk),h.ne,h.ok,by simp only;have:=h.t0;omega,by simp only;omega,hz0,hz1,by simp only;have:=h.ll;omega⟩,hy,hb,fun q hq=>.inl hq⟩
theorem Way.leg(h:Way w base yb n c Y i b l){w1:World}{v':Value}{g:Lg}{y:Int}(hg:g.ok)(hown:Own w1 base 375 4 QX v' (l++[g]))(hgr:w.grownBy w1 b.v.ownBlock)(hv:v'.ownBlock=b.v.ownBlock\/v'.ownBlock=some w.heap.size)(hy:y=b.t+1)(hy1:b.t+1<=10000000):
  WayP w base yb n c Y i b 1 (((w1.setCell ⟨yb,i*3,none⟩ v').setCell ⟨yb,i*3+1,none⟩ (O J y)).setCell ⟨yb,i*3+2,none⟩ (O J 1)) ⟨v',y,1⟩ (l++[g]):=by
 have hi:=(List.getElem?_eq_some_iff.1 h.at_).1;have hlt:=h.lt;have h0:Own w1 base 268 3 aD (.slice (some ⟨yb,0,none⟩) n c) Y:=World.ownsRow.kept h.own hgr (.inr (fun e=>h.ne yb e.symm rfl));have h1:=(h0.storeF qg h.len (z:=i) (j:=0) (x':={b with v:=v'}) (u:=v') h.at_ rfl (by omega)).1;have h2:=(h1.storeF qg (by rw[List.length_set];exact h.len) (z:=i) (j:=1) (x:={b with v:=v'}) (x':=⟨v',y,b.n⟩) (u:=O J y) (by rw[List.getElem?_set];simp[hi]) rfl (by omega)).1;rw[List.set_set]at h2;have h3:=(h2.storeF qg (by rw[List.length_set];exact h.len) (z:=i) (j:=2) (x:=⟨v',y,b.n⟩) (x':=⟨v',y,1⟩) (u:=O J 1) (by rw[List.getElem?_set];simp[hi]) rfl (by omega)).1;rw[List.set_set]at h3;have hb1:But (fun q=>q=yb) w1 (((w1.setCell ⟨yb,i*3+0,none⟩ v').setCell ⟨yb,i*3+1,none⟩ (O J y)).setCell ⟨yb,i*3+2,none⟩ (O J 1)):=(((But.refl (fun q=>q=yb) w1).at1 rfl _ _).at1 rfl _ _).at1 rfl _ _;have hb:But (fun q=>q=yb\/b.v.ownBlock=some q) w (((w1.setCell ⟨yb,i*3+0,none⟩ v').setCell ⟨yb,i*3+1,none⟩ (O J y)).setCell ⟨yb,i*3+2,none⟩ (O J 1)):=
  (But.of_grown hgr (fun k hk=>.inr hk)).trans (hb1.mono (fun q _ hq=>.inl hq)) (fun q _ hq=>hq)
 have hne:∀ k,v'.ownBlock=some k->k≠yb:=fun k hk=>by
  rcases hv with hv|hv
  ·exact h.ne k (hv▸hk)
  ·rw[hv]at hk;injection hk with hk;omega
 refine⟨⟨h3,by rw[List.length_set];exact h.len,by rw[List.getElem?_set];simp[hi],Own.but hown hb1 (fun k hk=>hne k hk),hne,?_,by simp only;have:=h.t0;omega,by simp only;omega,by simp,by simp only;have:=h.t0;omega,by simp only;have:=h.ll;rw[List.length_append,List.length_singleton];omega⟩,hy,hb,fun q hq=>?_⟩
 ·intro x hx;rcases List.mem_append.1 hx with hx|hx
  ·exact h.ok x hx
  ·rw[List.mem_singleton.1 hx];exact hg
 ·rcases hv with hv|hv
  ·exact .inl (hv▸hq)
  ·rw[hv]at hq;injection hq with hq;exact .inr (by omega)
theorem Way.turn(h:Way w base yb n c Y i b l){g cap:Nat}(hv:b.v=.slice (some ⟨g,0,none⟩) l.length cap){j:Nat}{x:Lg}(hx:l[j]?=some x){d:Int}(d0: -1<=d)(d1:d<=1):
  WayP w base yb n c Y i b 0 (w.setCell ⟨g,j*4+2,none⟩ (O J d)) b (l.set j {x with d:=d}):=by
 have hne:=h.ne g (by rw[hv];rfl);have hl:=h.legs;rw[hv]at hl;have h1:=(hl.storeF jk rfl hx (x':={x with d:=d}) (j:=2) (u:=O J d) rfl (by omega)).1;have hb:But (fun q=>q=g) w (w.setCell ⟨g,j*4+2,none⟩ (O J d)):=(But.refl (fun q=>q=g) w).at1 rfl _ _;have hYY:Y.set i b=Y:=List.ext_getElem? fun j=>by
   rw[List.getElem?_set];split
   ·rename_i e;subst e;split
    ·exact h.at_.symm
    ·rename_i h';exact absurd (List.getElem?_eq_some_iff.1 h.at_).1 h'
   ·rfl
 refine⟨⟨?_,by rw[List.length_set];exact h.len,by rw[hYY];exact h.at_,?_,h.ne,?_,h.t0,h.t1,h.n0,h.n1,by rw[List.length_set];exact h.ll⟩,by omega,hb.mono (fun q _ hq=>.inr (by rw[hq,hv];rfl)),fun q hq=>.inl hq⟩
 ·rw[hYY];exact Own.but h.own hb (fun k hk e=>by simp[Value.ownBlock]at hk;omega)
 ·rw[hv];exact h1
 ·intro y hy;obtain⟨q,hq⟩:=List.getElem?_of_mem hy;rw[List.getElem?_set]at hq;have hok:=h.ok x (List.mem_of_getElem? hx);split at hq
  ·split at hq
   ·obtain rfl:=Option.some.inj hq;exact⟨hok.t0,hok.t1,hok.p0,hok.p1,d0,d1⟩
   ·cases hq
  ·exact h.ok y (List.mem_of_getElem? hq)
end
theorem JO(w:World)(g:Lg)(r:Nat)(hr:r=w.heap.size)(ty:TypeId):∀ j u,(QX g)[j]?=some u->(w.alloc (.cells #[O J g.t,O J g.p,O J g.d,.bool g.o] ty)).cell? ((⟨r,0,none⟩:Addr).add j)=some u:=fun j u hu=>by
 subst hr;have h:=(Bx.new w [O J g.t,O J g.p,O J g.d,.bool g.o] ty j u hu).1;unfold Addr.add;split
 ·rename_i e;rw[e]at h;exact h
 ·simpa using h
end
section
open Go.RowKit HB
theorem VF(A:Option Addr)(n k B:Nat)(l:List Lg)(tick:Int)(w:World)(hr:Rd w B 4 A n (l.flatMap QX))(hl:l.length=n)(hn:n<=10000000):
  Calls prog 266 #[.slice A n k,O J tick] w fun e w'=>∃ i:Int,e=.returned (O J i)/\-1<=i/\i<n/\w'=w:=by
 have HR:=ze hr;clear hr;go_enter func266,ntmps266;go_wp2_with fail
 go_loopw [5,6] (fun a b wr=>∃ lo hi:Nat,lo<=hi/\hi<=n/\a=O J lo/\b=O J hi/\wr=w) (fun a b _=>(intOf b).toNat-(intOf a).toNat)
 case atStart=>exact⟨0,n,by omega,by omega,rfl,rfl,rfl⟩
 case round=>
  obtain⟨lo,hi,h1,h2,rfl,rfl,rfl⟩:=hrel;by_cases hlt:lo<hi
  ·obtain⟨m,hm⟩:∃ m:Nat,m=(lo+hi)/2:=⟨_,rfl⟩;have hm1:((lo:Int)+(hi:Int))/2=(m:Int):=by omega
   have hm2:lo<=m:=by omega
   have hm3:m<hi:=by omega
   obtain⟨b,off,x,rfl,hb,hx,hc⟩:=HR.o.elem_at jk hl (i:=m) (by omega);have c0:=hc 0 _ (by omega) rfl;rw[Nat.add_zero]at c0;have i0:(0:Int)<=(m:Int):=by omega
   have i1:(m:Int)<(n:Int):=by omega
   clear hc hx hm;go_wp2_with fail
   all_goals
    go_roundw
   case rel=>first|exact⟨m+1,hi,by omega,by omega,by go_num,rfl,trivial⟩|exact⟨lo,m,by omega,by omega,rfl,rfl,trivial⟩
   case measure=>simp[intOf];omega
   case rel=>first|exact⟨m+1,hi,by omega,by omega,by go_num,rfl,trivial⟩|exact⟨lo,m,by omega,by omega,rfl,rfl,trivial⟩
   case measure=>simp[intOf];omega
  ·have:lo=hi:=by omega
   subst this;go_wp2_with fail;go_ret;exact⟨_,rfl,by omega,by omega,rfl⟩
theorem WK(A:Option Addr)(n k B:Nat)(l:List Lg)(tick:Int)(w:World)(hr:Rd w B 4 A n (l.flatMap QX))(hl:l.length=n)(hn:n<=10000000):
  Calls prog 238 #[.slice A n k,O J tick] w fun e w'=>(∃(p:Int)(d b:Bool),e=.returned (.tuple #[O J p,.bool d,.bool b]))/\fj w w':=by
 have HR:=ze hr;have HF:=ze (fun W(hb:W=w)=>VF A n k B l tick W (hb▸hr) hl hn);clear hr;go_enter func238,ntmps238;go_upto_region 2 with(go_at_call 266;(refine(HF.o _ rfl).mono ?_);rintro r w1 ⟨i,rfl,h0,h1,e9⟩;have e8:=e9.symm;clear e9;subst e8);by_cases hlt:i<0
 ·go_wp2_with fail;go_ret3;exact⟨⟨_,_,_,rfl⟩,fh⟩
 ·obtain⟨m,hm⟩:∃ m:Nat,i=m:=⟨i.toNat,by omega⟩;subst hm;obtain⟨b,off,x,rfl,hb,hx,hc⟩:=HR.o.elem_at jk hl (i:=m) (by omega);have c0:=hc 0 _ (by omega) rfl;have c1:=hc 1 _ (by omega) rfl;have c2:=hc 2 _ (by omega) rfl;have c3:=hc 3 _ (by omega) rfl;rw[Nat.add_zero]at c0;have i0:(0:Int)<=(m:Int):=by omega
  have i1:(m:Int)<(n:Int):=by omega
  have i2:decide ((m:Int)<0)=false:=by simp
  clear hc hx hlt;go_wp2_with fail;go_quiet(fail);go_wp2_with fail;go_ret3;exact⟨⟨_,_,_,rfl⟩,zg fh _⟩
namespace HB
theorem kG{P:Program}{α:Type}{w:World}{base:Nat}{e:TypeId}{sz:Nat}{f:α->List Value}{v:Value}{l:List α}{ops:Array Oper}{rest:List Oper}{o:Oper}{a:Act}{Q:Exit->Act->World->Prop}(hgd:o.guard=none)(s x:Operand)(t:TypeId)
  (ho:o.op=.call {callee:=.builtin .append,args:= #[s,x],argTypes:= #[t,t]})
  {z:Value}{bytes:Nat}(ht:P.underlying t=some (.slice e))(hinfo:(P.info? e).map (fun i=>(i.zero,i.size,i.bytes))=some (some z,sz,bytes))(hzs:z.cells.size=sz)(hsz:0<sz)(hby:bytes<=1000)
  (hs:a.eval s=v)(hown:Own w base e sz f v l)(y:α)(ad:Addr)(c:Nat)(hx:a.eval x=.slice (some ad) 1 c)(hl:(f y).length=sz)(hc:∀ j u,(f y)[j]?=some u->w.cell? (ad.add j)=some u)(h1:∀ u∈f y,u.oneCell'=true)
  (hn:l.length<=1000000000)(hbase:base<=w.heap.size)
  (h:∀ v' w',Own w' base e sz f v' (l++[y])->w.grownBy w' v.ownBlock->(v'.ownBlock=v.ownBlock\/v'.ownBlock=some w.heap.size)->wpList P ops Q rest (a.put o.dst v') w'):wpList P ops Q (o::rest) a w:=by
 obtain⟨v',w',hr',h2,h3,h4⟩:=ZZ (P:=P) t ht hinfo hzs hsz hby hown y ad c hl hc h1 hn hbase o.type;refine wpList_plain hgd fun K hK=>?_
 unfold Oper.wp execOp;simp only[ho,resolve,invoke,builtin,Sem.run_bind,Sem.run_pure,Result.andThen_ok,List.map_toArray,List.map_cons,List.map_nil,hs,hx,hr'];exact hK _ _ (h v' w' h2 h3 h4)
end HB
structure Sp where
 (a b:Int)
abbrev aE(s:Sp):List Value:=[O J s.a,O J s.b]
theorem vi(s:Sp):(aE s).length=2:=rfl
theorem ui(s:Sp):∀ u∈aE s,u.oneCell'=true:=by intro u hu;simp only[aE,List.mem_cons,List.not_mem_nil,or_false]at hu;rcases hu with rfl|rfl<;>rfl
theorem Span.info:(prog.info? 342).map (fun i=>(i.zero,i.size,i.bytes))=some (some (.agg #[O J 0,O J 0]),2,16):=by kernel_rfl
def Sp.ok(s:Sp):Prop:=0<=s.a/\s.a<=10000000/\0<=s.b/\s.b<=100000000
theorem yz(A:Option Addr)(n k B:Nat)(l:List Lg)(hz:Int)(w:World)(hr:Rd w B 4 A n (l.flatMap QX))(hB:B<=w.heap.size)(hl:l.length=n)(hn:n<=10000000)(hok:∀ g∈l,g.ok)(h0:0<=hz)(h1:hz<=100000000):
  Calls prog 202 #[.slice A n k,O J hz] w fun e w'=>∃ v out,e=.returned v/\Own w' w.heap.size 342 2 aE v out/\out.length<=n/\(∀s∈out,s.ok)/\fj w w':=by
 have HR:=ze hr;have HOK:=ze hok;clear hr hok;go_enter func202,ntmps202;go_wp2_with fail
 go_loopw [5,11] (fun o i wr=>∃(j:Nat)(v:Value)(out:List Sp),v=o/\j<=n/\i=O J j/\Own wr w.heap.size 342 2 aE v out/\out.length<=j/\(∀s∈out,s.ok)/\fj w wr) (fun _ i _=>n-(intOf i).toNat)
 case atStart=>exact⟨0,_,[],rfl,Nat.zero_le _,rfl,Own.nil _ _ _ _ _,fi,fun s hs=>(by cases hs),fh⟩
 case round=>
  obtain⟨j,v,out,hv,hj,rfl,ho,hol,hos,hb⟩:=hrel;subst hv;have HO:=ze ho;have HOS:=ze hos;have HB:=ze hb;have hzr:=hb.size;by_cases hlt:j<n
  ·have hrr:=HR.o.below (hb.mono hB);obtain⟨b,off,x,rfl,hbb,hx,hc⟩:=hrr.elem_at jk hl (i:=j) hlt;have c0:=hc 0 _ (by omega) rfl;have c3:=hc 3 _ (by omega) rfl;rw[Nat.add_zero]at c0;have hxo:=HOK.o x (List.mem_of_getElem? hx);have HXO:=ze hxo;have x0:=hxo.t0;have x1:=hxo.t1;have i0:(0:Int)<=(j:Int):=by omega
   have i1:(j:Int)<(n:Int):=by omega
   have key:∃ E:Int,0<=E/\E<=hz/\((j+1<n/\∃ y:Int,wr.cell? ⟨b,off+(j+1)*4,none⟩=some (O J y)/\min hz y=E)\/(¬(j+1<n)/\E=hz)):=by
    by_cases h9:j+1<n
    ·obtain⟨b',off',y,e,-,hy,hc'⟩:=hrr.elem_at jk hl (i:=j+1) h9;cases e;have:=HOK.o y (List.mem_of_getElem? hy);have d0:=hc' 0 _ (by omega) rfl;rw[Nat.add_zero]at d0;exact⟨min hz y.t,by have:=this.t0;omega,by omega,.inl ⟨h9,y.t,d0,rfl⟩⟩
    ·exact⟨hz,h0,Int.le_refl _,.inr ⟨h9,rfl⟩⟩
   obtain⟨E,e0,e1,key⟩:=key;have HE:=ze (show E<=100000000 by omega);clear hc hx hrr ho hos hb;rcases key with⟨k1,y,d0,d1⟩|⟨k1,d1⟩
   ·have i2:(j:Int)+1<(n:Int):=by omega
    go_upto_region 8 with(fail);clear d0 d1;rcases Bool.eq_false_or_eq_true x.o with ho|ho
    rotate_left
    ·rw[ho]at c3;clear ho;go_wp2_with fail;go_roundw
     case rel=>exact⟨j+1,v,out,rfl,by omega,by go_num,HO.o,by omega,HOS.o,HB.o⟩
     case measure=>simp[intOf];omega
    rw[ho]at c3;clear ho;by_cases hE:E<=x.t
    ·
     go_wp2_with fail;go_roundw
     case rel=>exact⟨j+1,v,out,rfl,by omega,by go_num,HO.o,by omega,HOS.o,HB.o⟩
     case measure=>simp[intOf];omega
    have hE1:decide (E<=x.t)=false:=by simp;omega
    clear hE;rcases Nat.eq_zero_or_pos out.length with hz0|hz0
    ·have hout:out=[]:=List.eq_nil_of_length_eq_zero hz0;subst hout;obtain⟨sA,sk,hsv,-,-⟩:=HO.o.shape;rw[List.length_nil]at hsv;subst hsv;go_wp2_with fail;go_quiet(fail);go_wp2_with(at_builtin;refine kG (P:=prog) rfl _ _ 340 rfl underlying340 Span.info rfl (by omega) (by omega) rfl ((HO.o.drewN _).alloc _) (⟨x.t,E⟩:Sp) ⟨_,0,none⟩ 1 rfl rfl (zr _ _ (aE ⟨x.t,E⟩) _ rfl) (ui _) (by omega) (by simp;omega) ?_;intro v7 w7 k1 k2 k3;have K1:=ze k1;have K2:=ze (((zg (Below.refl w.heap.size wr) _).alloc hzr (.cells #[O J x.t,O J E] 342)).grown k2 (by simp;omega) (fun k hk=>(HO.o.row.lt k hk).1));clear k1 k2 k3);go_roundw
     case rel=>exact⟨j+1,v7,_,rfl,by omega,by go_num,K1.o,by rw[List.length_append,List.length_singleton];first|omega|(simp;done),fun s hs=>(List.mem_append.1 hs).elim (HOS.o s) (fun h=>by rw[List.mem_singleton.1 h];exact⟨x0,x1,e0,HE.o⟩),HB.o.trans K2.o⟩
     case measure=>simp[intOf];omega
    obtain⟨g,cap,hsv,hg0,hgl,hcap,hcell,hfr⟩:=HO.o.at_ hz0;obtain⟨m,hm⟩:∃ m,out.length=m+1:=⟨out.length-1,by omega⟩;obtain⟨z,hz9⟩:∃ z,out[m]?=some z:=⟨_,List.getElem?_eq_getElem (by omega)⟩;have d1:=hcell (m*2+1) _ ((flat_get vi out m 1 z hz9 (by omega)).trans rfl);have f1:=hfr (m*2+1);rw[hm]at hsv hcap hz0;subst hsv;have HM:=ze hm;have HZ:=ze hz9;have hm8:m<=10000000:=by omega
    have j0:(0:Int)<=(m:Int):=by omega
    have j1:(m:Int)<(m:Int)+1:=by omega
    clear hcell hfr hm hz9 hz0;rcases Bool.eq_false_or_eq_true (z.b==x.t)with hq|hq
    ·go_wp2_with fail;go_quiet(fail);go_wp2_with fail;go_roundw
     case rel=>
      have h9:=(HO.o.drewN nq).storeF vi HM.o HZ.o (x':=⟨z.a,E⟩) (u:=O J E) (j:=1) rfl (by omega);exact⟨j+1,_,out.set m ⟨z.a,E⟩,rfl,by omega,by go_num,h9.1,by rw[List.length_set];omega,fun s hs=>(List.mem_or_eq_of_mem_set hs).elim (HOS.o s) (fun h=>by rw[h];have h8:=HOS.o z (List.mem_of_getElem? HZ.o);exact⟨h8.1,h8.2.1,e0,HE.o⟩),HB.o.trans ((zg (Below.refl w.heap.size wr) nq).trans h9.2)⟩
     case measure=>simp[intOf];omega
    ·
     go_wp2_with fail;go_quiet(fail);go_wp2_with(at_builtin;refine kG (P:=prog) rfl _ _ 340 rfl underlying340 Span.info rfl (by omega) (by omega) rfl ((HO.o.drewN _).alloc _) (⟨x.t,E⟩:Sp) ⟨_,0,none⟩ 1 rfl rfl (zr _ _ (aE ⟨x.t,E⟩) _ rfl) (ui _) (by omega) (by simp;omega) ?_;intro v7 w7 k1 k2 k3;have K1:=ze k1;have K2:=ze (((zg (Below.refl w.heap.size wr) _).alloc hzr (.cells #[O J x.t,O J E] 342)).grown k2 (by simp;omega) (fun k hk=>(HO.o.row.lt k hk).1));clear k1 k2 k3);go_roundw
     case rel=>exact⟨j+1,v7,_,rfl,by omega,by go_num,K1.o,by rw[List.length_append,List.length_singleton];first|omega|(simp;done),fun s hs=>(List.mem_append.1 hs).elim (HOS.o s) (fun h=>by rw[List.mem_singleton.1 h];exact⟨x0,x1,e0,HE.o⟩),HB.o.trans K2.o⟩
     case measure=>simp[intOf];omega
   ·have i2:decide ((j:Int)+1<(n:Int))=false:=by simp;omega
    go_upto_region 8 with(fail);subst d1;rcases Bool.eq_false_or_eq_true x.o with ho|ho
    rotate_left
    ·rw[ho]at c3;clear ho;go_wp2_with fail;go_roundw
     case rel=>exact⟨j+1,v,out,rfl,by omega,by go_num,HO.o,by omega,HOS.o,HB.o⟩
     case measure=>simp[intOf];omega
    rw[ho]at c3;clear ho;by_cases hE:E<=x.t
    ·
     go_wp2_with fail;go_roundw
     case rel=>exact⟨j+1,v,out,rfl,by omega,by go_num,HO.o,by omega,HOS.o,HB.o⟩
     case measure=>simp[intOf];omega
    have hE1:decide (E<=x.t)=false:=by simp;omega
    clear hE;rcases Nat.eq_zero_or_pos out.length with hz0|hz0
    ·have hout:out=[]:=List.eq_nil_of_length_eq_zero hz0;subst hout;obtain⟨sA,sk,hsv,-,-⟩:=HO.o.shape;rw[List.length_nil]at hsv;subst hsv;go_wp2_with fail;go_quiet(fail);go_wp2_with(at_builtin;refine kG (P:=prog) rfl _ _ 340 rfl underlying340 Span.info rfl (by omega) (by omega) rfl ((HO.o.drewN _).alloc _) (⟨x.t,E⟩:Sp) ⟨_,0,none⟩ 1 rfl rfl (zr _ _ (aE ⟨x.t,E⟩) _ rfl) (ui _) (by omega) (by simp;omega) ?_;intro v7 w7 k1 k2 k3;have K1:=ze k1;have K2:=ze (((zg (Below.refl w.heap.size wr) _).alloc hzr (.cells #[O J x.t,O J E] 342)).grown k2 (by simp;omega) (fun k hk=>(HO.o.row.lt k hk).1));clear k1 k2 k3);go_roundw
     case rel=>exact⟨j+1,v7,_,rfl,by omega,by go_num,K1.o,by rw[List.length_append,List.length_singleton];first|omega|(simp;done),fun s hs=>(List.mem_append.1 hs).elim (HOS.o s) (fun h=>by rw[List.mem_singleton.1 h];exact⟨x0,x1,e0,HE.o⟩),HB.o.trans K2.o⟩
     case measure=>simp[intOf];omega
    obtain⟨g,cap,hsv,hg0,hgl,hcap,hcell,hfr⟩:=HO.o.at_ hz0;obtain⟨m,hm⟩:∃ m,out.length=m+1:=⟨out.length-1,by omega⟩;obtain⟨z,hz9⟩:∃ z,out[m]?=some z:=⟨_,List.getElem?_eq_getElem (by omega)⟩;have d1:=hcell (m*2+1) _ ((flat_get vi out m 1 z hz9 (by omega)).trans rfl);have f1:=hfr (m*2+1);rw[hm]at hsv hcap hz0;subst hsv;have HM:=ze hm;have HZ:=ze hz9;have hm8:m<=10000000:=by omega
    have j0:(0:Int)<=(m:Int):=by omega
    have j1:(m:Int)<(m:Int)+1:=by omega
    clear hcell hfr hm hz9 hz0;rcases Bool.eq_false_or_eq_true (z.b==x.t)with hq|hq
    ·go_wp2_with fail;go_quiet(fail);go_wp2_with fail;go_roundw
     case rel=>
      have h9:=(HO.o.drewN nq).storeF vi HM.o HZ.o (x':=⟨z.a,E⟩) (u:=O J E) (j:=1) rfl (by omega);exact⟨j+1,_,out.set m ⟨z.a,E⟩,rfl,by omega,by go_num,h9.1,by rw[List.length_set];omega,fun s hs=>(List.mem_or_eq_of_mem_set hs).elim (HOS.o s) (fun h=>by rw[h];have h8:=HOS.o z (List.mem_of_getElem? HZ.o);exact⟨h8.1,h8.2.1,e0,HE.o⟩),HB.o.trans ((zg (Below.refl w.heap.size wr) nq).trans h9.2)⟩
     case measure=>simp[intOf];omega
    ·
     go_wp2_with fail;go_quiet(fail);go_wp2_with(at_builtin;refine kG (P:=prog) rfl _ _ 340 rfl underlying340 Span.info rfl (by omega) (by omega) rfl ((HO.o.drewN _).alloc _) (⟨x.t,E⟩:Sp) ⟨_,0,none⟩ 1 rfl rfl (zr _ _ (aE ⟨x.t,E⟩) _ rfl) (ui _) (by omega) (by simp;omega) ?_;intro v7 w7 k1 k2 k3;have K1:=ze k1;have K2:=ze (((zg (Below.refl w.heap.size wr) _).alloc hzr (.cells #[O J x.t,O J E] 342)).grown k2 (by simp;omega) (fun k hk=>(HO.o.row.lt k hk).1));clear k1 k2 k3);go_roundw
     case rel=>exact⟨j+1,v7,_,rfl,by omega,by go_num,K1.o,by rw[List.length_append,List.length_singleton];first|omega|(simp;done),fun s hs=>(List.mem_append.1 hs).elim (HOS.o s) (fun h=>by rw[List.mem_singleton.1 h];exact⟨x0,x1,e0,HE.o⟩),HB.o.trans K2.o⟩
     case measure=>simp[intOf];omega
  ·obtain rfl:j=n:=by omega
   have hd0:decide ((j:Int)<(j:Int))=false:=by simp
   clear hlt;go_wp2_with fail;go_ret;exact⟨_,out,rfl,HO.o,by omega,HOS.o,HB.o⟩
end
section
open Go.RowKit HB Go.Maps CalP
namespace HB
section
variable{P:Program}{α:Type}{w:World}{base:Nat}{e:TypeId}{sz:Nat}{f:α->List Value}{v:Value}{l:List α}
theorem Qp(ty t:TypeId){z:Value}{bytes:Nat}(ht:P.underlying t=some (.slice e))(hinfo:(P.info? e).map (fun i=>(i.zero,i.size,i.bytes))=some (some z,sz,bytes))(hzs:z.cells.size=sz)(hsz:0<sz)(hby:bytes<=1000)
  (hown:Own w base e sz f v l)(ys:List α)(B:Nat)(A:Option Addr)(m c:Nat)(hm:ys.length=m)
  (hr:Rd w B sz A m (ys.flatMap f))(h1:∀ u∈ys.flatMap f,u.oneCell'=true)(hn:l.length<=1000000000)(hm1:m<=1000000000)(hbase:base<=w.heap.size):
  ∃v' w',(Builtin.append_ #[t,t] ty #[v,.slice A m c]).run P w=.ok v' w'/\Own w' base e sz f v' (l++ys)/\Below base w w':=by
 obtain⟨i,hi,hz,hzz,hbb⟩:=info_parts hinfo;subst hm;rcases A with _|ad
 ·have hm0:ys=[]:=by
   rcases Nat.eq_zero_or_pos ys.length with h0|h0
   ·exact List.eq_nil_of_length_eq_zero h0
   ·obtain⟨b,off,hA,_⟩:=hr.2 h0;cases hA
  subst hm0;refine⟨v,w,?_,by simpa using hown,fh⟩;rcases hown.2 with⟨hv,h0⟩|⟨g,cap,cur,hv,_,_,hnc,_⟩
  ·rw[hv];simp[Builtin.append_,run_underlying ht,sizeOf,typeInfo,hi,Builtin.lenOf,Builtin.firstCells]
  ·rw[hv];simp[Builtin.append_,run_underlying ht,sizeOf,typeInfo,hi,Builtin.lenOf,Builtin.firstCells,hnc,storeCells]
 ·have hcells:∀ j u,(ys.flatMap f)[j]?=some u->w.cell? (ad.add j)=some u:=by
   intro j u hu;rcases Nat.eq_zero_or_pos ys.length with h0|h0
   ·have:ys=[]:=List.eq_nil_of_length_eq_zero h0;subst this;simp at hu
   ·obtain⟨b,off,hA,_,hc⟩:=hr.2 h0;injection hA with hA;subst hA;have:=hc j u hu;unfold Addr.add;split
    ·rename_i hj;subst hj;exact this
    ·exact this
  obtain⟨v',w',hrun,k1,k2,-⟩:=run_append_own_at (P:=P) w base t ty e i z sz bytes ht hi hz hzz hbb hzs hsz v l.length (l.flatMap f) hown.row ad ys.length c (ys.flatMap f) hr.1 hcells h1 (by simp only[maxLen];omega) (Nat.le_trans (Nat.mul_le_mul_left _ hby) (by omega)) hbase;refine⟨v',w',hrun,?_,(Below.refl base w).grown k2 hbase (fun k hk=>(hown.row.lt k hk).1)⟩
  show w'.ownsRow base e sz _ (l++ys).length ((l++ys).flatMap f)
  rw[List.length_append,List.flatMap_append];exact k1
theorem Gx{ops:Array Oper}{o:Oper}{a:Act}{K:Act->World->Prop}{Q:Exit->Act->World->Prop}{E:Prop}(hgd:o.guard=none)(s x:Operand)(t:TypeId)
  (ho:o.op=.call {callee:=.builtin .append,args:= #[s,x],argTypes:= #[t,t]})
  {z:Value}{bytes:Nat}(ht:P.underlying t=some (.slice e))(hinfo:(P.info? e).map (fun i=>(i.zero,i.size,i.bytes))=some (some z,sz,bytes))(hzs:z.cells.size=sz)(hsz:0<sz)(hby:bytes<=1000)
  (hs:a.eval s=v)(hown:Own w base e sz f v l)(ys:List α)(B:Nat)(A:Option Addr)(m c:Nat)(hx:a.eval x=.slice A m c)(hm:ys.length=m)
  (hr:Rd w B sz A m (ys.flatMap f))(h1:∀ u∈ys.flatMap f,u.oneCell'=true)
  (hn:l.length<=1000000000)(hm1:m<=1000000000)(hbase:base<=w.heap.size)
  (h:∀ v' w',Own w' base e sz f v' (l++ys)->Below base w w'->K (a.put o.dst v') w'):if Region.wanted o (yielded ops a.tmps)=true then Oper.wp P o a w K Q else E:=by
 have hw:Region.wanted o (yielded ops a.tmps)=true:=by simp[Region.wanted,hgd]
 rw[if_pos hw];obtain⟨v',w',hr',h2,h3⟩:=Qp (P:=P) o.type t ht hinfo hzs hsz hby hown ys B A m c hm hr h1 hn hm1 hbase;unfold Oper.wp execOp;simp only[ho,resolve,invoke,builtin,Sem.run_bind,Sem.run_pure,Result.andThen_ok,List.map_toArray,List.map_cons,List.map_nil,hs,hx,hr'];exact h v' w' h2 h3
end
end HB
theorem Js(base yb n c:Nat)(Y:List Bu)(i:Nat)(b:Bu)(l:List Lg)(pos:Int)(door:Bool)(w:World)(h:Way w base yb n c Y i b l)(p0: -1000000<=pos)(p1:pos<=1000000)(ht:b.t+1<=10000000)(hl:l=[]\/∃ x,l[l.length-1]?=some x/\0<l.length/\x.o≠door):
  Calls prog 194 #[.pointer (some ⟨yb,i*3,none⟩),O J pos,.bool door] w fun e w'=>e=.returned (.tuple #[])/\∃ b' l',WayP w base yb n c Y i b 1 w' b' l':=by
 have HW:=ze h;have t0:=h.t0;have HT:=ze (show 0<=b.t/\b.t<=10000000 from⟨h.t0,h.t1⟩);have hb0:=h.lt.2;have hyl:=h.lt.1;have hll:=h.ll;have HLL:=ze (show l.length<=1000000000 by omega);obtain⟨⟨c0,c1,c2⟩,f0,f1,f2⟩:=h.cells;have HC2:=ze c2;obtain⟨A,cap,hv,hcap,hrd⟩:=h.legs.shape;have HO:=ze h.legs;rw[hv]at c0;clear h c2;obtain⟨m,hm⟩:∃ m,m=l.length:=⟨_,rfl⟩;rw[<-hm]at hv c0 hcap hrd;have HV:=ze hv;clear hv;rcases hl with hl|⟨x,hx,hl0,hxo⟩
 ·obtain rfl:m=0:=by rw[hm,hl];rfl
  clear hl hrd hm;go_enter func194,ntmps194;go_wp2_with fail
  go_region_law (first|(refine jn (P:=prog) rfl _ _ 266 rfl underlying266 Leg.info rfl (by omega) (by omega) (HV.o.symm) ((HO.o.drew).alloc _) (⟨b.t,pos,0,door⟩:Lg) ⟨_,0,none⟩ 1 rfl rfl (JO _ _ _ rfl _) (uh _) HLL.o (by simp;omega) ?_;intro v' w1 k1 k2 k3;have hb:=(Below.refl w.heap.size w).drew.alloc fi (.cells #[O J b.t,O J pos,O J 0,.bool door] 375);have HWP:=ze (((HW.o.below hb).leg ⟨HT.o.1,HT.o.2,p0,p1,by simp,by simp⟩ k1 k2 k3 rfl ht).from_ hb);have HBK:=ze (k2.block yb (Nat.lt_of_lt_of_le hyl hb.size) (fun e=>HW.o.ne yb e.symm rfl));obtain⟨A2,c2,hv2,-,-⟩:=Own.shape k1;rw[List.length_append,List.length_singleton]at hv2;subst hv2;have d0:=(World.cell?_of_block (a:=⟨yb,i*3,none⟩) HBK.o).trans (zf hb c0);have d1:=(World.cell?_of_block (a:=⟨yb,i*3+1,none⟩) HBK.o).trans (zf hb c1);have d2:=(World.cell?_of_block (a:=⟨yb,i*3+2,none⟩) HBK.o).trans (zf hb HC2.o);have e0:=(World.frozen?_of_block (a:=⟨yb,i*3,none⟩) HBK.o).trans ((hb.frozen (p:=⟨yb,i*3,none⟩) hyl).trans f0);have e1:=(World.frozen?_of_block (a:=⟨yb,i*3+1,none⟩) HBK.o).trans ((hb.frozen (p:=⟨yb,i*3+1,none⟩) hyl).trans f1);have e2:=(World.frozen?_of_block (a:=⟨yb,i*3+2,none⟩) HBK.o).trans ((hb.frozen (p:=⟨yb,i*3+2,none⟩) hyl).trans f2);clear k1 k2 k3 hb))
  all_goals(
   go_wp2_with fail;go_end0;exact⟨rfl,_,_,HWP.o⟩)
 ·have hm0:0<m:=by omega
  obtain⟨g,cp,hvv,hg0,hgl,-,hcell,-⟩:=HO.o.at_ hl0;have hA:A=some ⟨g,0,none⟩/\cap=cp:=by rw[HV.o]at hvv;simp at hvv;exact⟨hvv.1,hvv.2.2⟩
  obtain⟨rfl,rfl⟩:=hA;obtain⟨j,hj⟩:∃ j,j=m-1:=⟨_,rfl⟩;rw[<-hm,<-hj]at hx;have x3:=hcell (j*4+3) _ ((flat_get jk l j 3 x hx (by omega)).trans rfl);have q0:(0:Int)<(m:Int):=by omega
  have q1:(m:Int)-1=(j:Int):=by omega
  have q2:(j:Int)<(m:Int):=by omega
  have q3:j<m:=by omega
  have q4:j<=10000000:=by omega
  have q5:m<=10000000:=by omega
  have hd:(x.o==door)=false:=by simpa using hxo
  have HXO:=ze hd;have HVV:=ze hvv;have HJ:=ze hj;clear hcell hrd hx hxo hvv hm hj;go_enter func194,ntmps194;go_wp2_with fail
  go_region_law (first|(refine jn (P:=prog) rfl _ _ 266 rfl underlying266 Leg.info rfl (by omega) (by omega) (HV.o.symm) ((HO.o.drew).alloc _) (⟨b.t,pos,0,door⟩:Lg) ⟨_,0,none⟩ 1 rfl rfl (JO _ _ _ rfl _) (uh _) HLL.o (by simp;omega) ?_;intro v' w1 k1 k2 k3;have hb:=(Below.refl w.heap.size w).drew.alloc fi (.cells #[O J b.t,O J pos,O J 0,.bool door] 375);have HWP:=ze (((HW.o.below hb).leg ⟨HT.o.1,HT.o.2,p0,p1,by simp,by simp⟩ k1 k2 k3 rfl ht).from_ hb);have HBK:=ze (k2.block yb (Nat.lt_of_lt_of_le hyl hb.size) (fun e=>HW.o.ne yb e.symm rfl));obtain⟨A2,c2,hv2,-,-⟩:=Own.shape k1;rw[List.length_append,List.length_singleton]at hv2;subst hv2;have d0:=(World.cell?_of_block (a:=⟨yb,i*3,none⟩) HBK.o).trans (zf hb c0);have d1:=(World.cell?_of_block (a:=⟨yb,i*3+1,none⟩) HBK.o).trans (zf hb c1);have d2:=(World.cell?_of_block (a:=⟨yb,i*3+2,none⟩) HBK.o).trans (zf hb HC2.o);have e0:=(World.frozen?_of_block (a:=⟨yb,i*3,none⟩) HBK.o).trans ((hb.frozen (p:=⟨yb,i*3,none⟩) hyl).trans f0);have e1:=(World.frozen?_of_block (a:=⟨yb,i*3+1,none⟩) HBK.o).trans ((hb.frozen (p:=⟨yb,i*3+1,none⟩) hyl).trans f1);have e2:=(World.frozen?_of_block (a:=⟨yb,i*3+2,none⟩) HBK.o).trans ((hb.frozen (p:=⟨yb,i*3+2,none⟩) hyl).trans f2);clear k1 k2 k3 hb))
  all_goals(
   go_wp2_with fail;go_end0;exact⟨rfl,_,_,HWP.o⟩)
theorem cN{a b:Int}(h0: -1<=a)(h1:a<=1)(h2:0<=b)(h3:b<=10000000): -10000000<=a*b/\a*b<=10000000:=by
 rcases(show a=-1\/a=0\/a=1 by omega)with rfl|rfl|rfl<;>omega
theorem Ys{α:Type}{Y:List α}{i:Nat}{b:α}(h:Y[i]?=some b):Y.set i b=Y:=List.ext_getElem? fun j=>by
 rw[List.getElem?_set];split
 ·rename_i e;subst e;split
  ·exact h.symm
  ·rename_i h';exact absurd (List.getElem?_eq_some_iff.1 h).1 h'
 ·rfl
theorem WayP.trans0{w w1 w2:World}{base yb n c:Nat}{Y:List Bu}{i:Nat}{b b2:Bu}{l l1 l2:List Lg}{k:Int}(h0:Way w base yb n c Y i b l)(h:WayP w base yb n c Y i b 0 w1 b l1)(h':WayP w1 base yb n c Y i b k w2 b2 l2):WayP w base yb n c Y i b k w2 b2 l2:=by
 have:=WayP.trans h0 h (by rw[Ys h0.at_];exact h')
 rwa [Int.zero_add]at this
theorem Yt(base yb n c:Nat)(Y:List Bu)(i:Nat)(b:Bu)(l:List Lg)(pos:Int)(door:Bool)(w:World)(h:Way w base yb n c Y i b l)(p0: -1000000<=pos)(p1:pos<=1000000)(ht:b.t+1<=10000000)(x:Lg)(hx:l[l.length-1]?=some x)(hl0:0<l.length)(hxo:x.o=door)(hn:b.n≠1\/b.n=1/\(pos-x.p< -1\/1<pos-x.p)):
  Calls prog 194 #[.pointer (some ⟨yb,i*3,none⟩),O J pos,.bool door] w fun e w'=>e=.returned (.tuple #[])/\∃ b' l',WayP w base yb n c Y i b 1 w' b' l':=by
 have HW:=ze h;have t0:=h.t0;have n0:=h.n0;have n1:b.n<=10000000:=by have:=h.n1;have:=h.t1;omega
 have HT:=ze (show 0<=b.t/\b.t<=10000000 from⟨h.t0,h.t1⟩);have HN:=ze (show 0<=b.n/\b.n<=b.t from⟨h.n0,h.n1⟩);have hb0:=h.lt.2;have hyl:=h.lt.1;have hll:=h.ll;have HLL:=ze (show l.length<=1000000000 by omega);have hxk:=h.ok x (List.mem_of_getElem? hx);have x0:=hxk.p0;have x1:=hxk.p1;have x2:=hxk.d0;have x3:=hxk.d1;obtain⟨⟨c0,c1,c2⟩,f0,f1,f2⟩:=h.cells;have HC2:=ze c2;obtain⟨g,cp,hvv,hg0,hgl,-,hcell,hfr⟩:=h.legs.at_ hl0;have hgy:=h.ne g (by rw[hvv];rfl);have hgy':¬ yb=g:=fun e=>hgy e.symm
 rw[hvv]at c0;have HO:=ze h.legs;clear h;obtain⟨m,hm⟩:∃ m,m=l.length:=⟨_,rfl⟩;rw[<-hm]at hvv c0;obtain⟨j,hj⟩:∃ j,j=m-1:=⟨_,rfl⟩;rw[<-hm,<-hj]at hx;have k1:=hcell (j*4+1) _ ((flat_get jk l j 1 x hx (by omega)).trans rfl);have k2:=hcell (j*4+2) _ ((flat_get jk l j 2 x hx (by omega)).trans rfl);have k3:=hcell (j*4+3) _ ((flat_get jk l j 3 x hx (by omega)).trans rfl);have kf:=hfr (j*4+2);have q0:(0:Int)<(m:Int):=by omega
 have q1:(m:Int)-1=(j:Int):=by omega
 have q2:(j:Int)<(m:Int):=by omega
 have q3:j<m:=by omega
 have q4:j<=10000000:=by omega
 have q5:m<=10000000:=by omega
 have hd:(x.o==door)=true:=by simpa using hxo
 have HV:=ze (show b.v=.slice (some ⟨g,0,none⟩) m cp from hvv);have HV2:=ze (show b.v=.slice (some ⟨g,0,none⟩) l.length cp from hm▸hvv);have HX:=ze hx;have HM:=ze (show m=l.length from hm);clear hcell hfr hx hvv hm hj hxo;have HN2:=ze (show 0<=b.n+1/\b.n+1<=b.t+1 from by have:=HN.o;omega);rcases hn with hn|⟨hn,hlo|hlo⟩
 all_goals
  first|have h7:=Y7 hn|have h7:=Ke hn
  have hp:=cN x2 x3 n0 n1;have m1:IntKind.i64.wrap (x.d*b.n)=x.d*b.n:=IntWalk.i64_in _ (by omega);have m2:IntKind.i64.wrap (x.p+x.d*b.n)=x.p+x.d*b.n:=IntWalk.i64_in _ (by omega);rcases Int.decEq pos (x.p+x.d*b.n)with hq|hq
  all_goals
   first|(have h9:=Y7 hq;have HQ1:=ze hq)|(have h9:=Ke hq;have HQ2:=ze hq)
   clear hp;have HH:=ze hn;clear hn hq;go_enter func194,ntmps194;go_wp2_with fail;go_quiet(fail);clear m1 m2;go_wp2_with fail
   try clear h9
   refine zq (w:=w) (fun V2=>Way V2 base yb n c Y i b l/\V2.cell? ⟨yb,i*3,none⟩=some (.slice (some ⟨g,0,none⟩) m cp)/\V2.cell? ⟨yb,i*3+1,none⟩=some (O J b.t)/\V2.cell? ⟨yb,i*3+2,none⟩=some (O J b.n)/\V2.frozen? ⟨yb,i*3,none⟩=false/\V2.frozen? ⟨yb,i*3+1,none⟩=false/\V2.frozen? ⟨yb,i*3+2,none⟩=false/\yb<V2.heap.size) ⟨HW.o.below (zg fh _),by simpa using c0,by simpa using c1,by simpa using HC2.o,by simpa using f0,by simpa using f1,by simpa using f2,by simpa using hyl⟩ (zg fh _) ?_;clear c0 c1 f0 f1 f2 hyl HC2 HO HW;rintro V2 ⟨hW2,c0,c1,c2,f0,f1,f2,hyl⟩ hbV;have HW:=ze hW2;have HBV:=ze hbV;have HC2:=ze c2;clear hW2 hbV;have HO:=ze HW.o.legs
   first
    |(clear HQ1;go_region;all_goals(go_wp2_with fail;exact bodyPost_ret (results_none rfl _ _ _) rfl ⟨rfl,_,_,(((HW.o.below fh.drew).two rfl HN2.o.1 HN2.o.2 ht).from_ HBV.o.drew)⟩))
    |(clear HQ2;clear c2;go_region_law (first|(refine jn (P:=prog) rfl _ _ 266 rfl underlying266 Leg.info rfl (by omega) (by omega) (HV.o.symm) ((HO.o.drew).alloc _) (⟨b.t,pos,0,door⟩:Lg) ⟨_,0,none⟩ 1 rfl rfl (JO _ _ _ rfl _) (uh _) HLL.o (by simp;omega) ?_;intro v' w1 k1 k2 k3;have hb:=(Below.refl V2.heap.size V2).drew.alloc fi (.cells #[O J b.t,O J pos,O J 0,.bool door] 375);have HWP:=ze (((HW.o.below hb).leg ⟨HT.o.1,HT.o.2,p0,p1,by simp,by simp⟩ k1 k2 k3 rfl ht).from_ (HBV.o.trans (hb.mono HBV.o.size)));have HBK:=ze (k2.block yb (Nat.lt_of_lt_of_le hyl hb.size) (fun e=>HW.o.ne yb e.symm rfl));obtain⟨A2,c2,hv2,-,-⟩:=Own.shape k1;rw[List.length_append,List.length_singleton]at hv2;subst hv2;have d0:=(World.cell?_of_block (a:=⟨yb,i*3,none⟩) HBK.o).trans (zf hb c0);have d1:=(World.cell?_of_block (a:=⟨yb,i*3+1,none⟩) HBK.o).trans (zf hb c1);have d2:=(World.cell?_of_block (a:=⟨yb,i*3+2,none⟩) HBK.o).trans (zf hb HC2.o);have e0:=(World.frozen?_of_block (a:=⟨yb,i*3,none⟩) HBK.o).trans ((hb.frozen (p:=⟨yb,i*3,none⟩) hyl).trans f0);have e1:=(World.frozen?_of_block (a:=⟨yb,i*3+1,none⟩) HBK.o).trans ((hb.frozen (p:=⟨yb,i*3+1,none⟩) hyl).trans f1);have e2:=(World.frozen?_of_block (a:=⟨yb,i*3+2,none⟩) HBK.o).trans ((hb.frozen (p:=⟨yb,i*3+2,none⟩) hyl).trans f2);clear k1 k2 k3 hb));all_goals(go_wp2_with fail;go_end0;exact⟨rfl,_,_,(HWP.o)⟩))
theorem bg(base yb n c:Nat)(Y:List Bu)(i:Nat)(b:Bu)(l:List Lg)(pos:Int)(door:Bool)(w:World)(h:Way w base yb n c Y i b l)(p0: -1000000<=pos)(p1:pos<=1000000)(ht:b.t+1<=10000000)(x:Lg)(hx:l[l.length-1]?=some x)(hl0:0<l.length)(hxo:x.o=door)(hn:b.n=1)(d0: -1<=pos-x.p)(d1:pos-x.p<=1):
  Calls prog 194 #[.pointer (some ⟨yb,i*3,none⟩),O J pos,.bool door] w fun e w'=>e=.returned (.tuple #[])/\∃ b' l',WayP w base yb n c Y i b 1 w' b' l':=by
 have HW:=ze h;have t0:=h.t0;have n0:=h.n0;have n1:b.n<=10000000:=by have:=h.n1;have:=h.t1;omega
 have HT:=ze (show 0<=b.t/\b.t<=10000000 from⟨h.t0,h.t1⟩);have HN:=ze (show 0<=b.n/\b.n<=b.t from⟨h.n0,h.n1⟩);have hb0:=h.lt.2;have hyl:=h.lt.1;have hll:=h.ll;have HLL:=ze (show l.length<=1000000000 by omega);have hxk:=h.ok x (List.mem_of_getElem? hx);have x0:=hxk.p0;have x1:=hxk.p1;have x2:=hxk.d0;have x3:=hxk.d1;obtain⟨⟨c0,c1,c2⟩,f0,f1,f2⟩:=h.cells;have HC2:=ze c2;obtain⟨g,cp,hvv,hg0,hgl,-,hcell,hfr⟩:=h.legs.at_ hl0;have hgy:=h.ne g (by rw[hvv];rfl);have hgy':¬ yb=g:=fun e=>hgy e.symm
 rw[hvv]at c0;have HO:=ze h.legs;clear h;obtain⟨m,hm⟩:∃ m,m=l.length:=⟨_,rfl⟩;rw[<-hm]at hvv c0;obtain⟨j,hj⟩:∃ j,j=m-1:=⟨_,rfl⟩;rw[<-hm,<-hj]at hx;have k1:=hcell (j*4+1) _ ((flat_get jk l j 1 x hx (by omega)).trans rfl);have k2:=hcell (j*4+2) _ ((flat_get jk l j 2 x hx (by omega)).trans rfl);have k3:=hcell (j*4+3) _ ((flat_get jk l j 3 x hx (by omega)).trans rfl);have kf:=hfr (j*4+2);have q0:(0:Int)<(m:Int):=by omega
 have q1:(m:Int)-1=(j:Int):=by omega
 have q2:(j:Int)<(m:Int):=by omega
 have q3:j<m:=by omega
 have q4:j<=10000000:=by omega
 have q5:m<=10000000:=by omega
 have hd:(x.o==door)=true:=by simpa using hxo
 have HV:=ze (show b.v=.slice (some ⟨g,0,none⟩) m cp from hvv);have HV2:=ze (show b.v=.slice (some ⟨g,0,none⟩) l.length cp from hm▸hvv);have HX:=ze hx;have HM:=ze (show m=l.length from hm);clear hcell hfr hx hvv hm hj hxo;have HN2:=ze (show 0<=b.n+1/\b.n+1<=b.t+1 from by have:=HN.o;omega);have h7:(b.n==1)=true:=by simpa using hn
 have m1:IntKind.i64.wrap ((pos-x.p)*b.n)=pos-x.p:=by rw[hn,Int.mul_one];exact IntWalk.i64_in _ (by omega)
 have m1':IntKind.i64.wrap ((pos-x.p)*1)=pos-x.p:=by rw[Int.mul_one];exact IntWalk.i64_in _ (by omega)
 have m2:IntKind.i64.wrap (x.p+(pos-x.p))=pos:=by rw[show x.p+(pos-x.p)=pos by omega];exact IntWalk.i64_in _ (by omega)
 have HH:=ze hn;clear hn;have HWT:=ze (HW.o.turn HV2.o HX.o d0 d1);go_enter func194,ntmps194;go_wp2_with fail;have d0:=(World.cell?_setCell_other w ⟨g,j*4+2,none⟩ ⟨yb,i*3,none⟩ (O J (pos-x.p)) (by simp[hgy])).trans c0;have d1:=(World.cell?_setCell_other w ⟨g,j*4+2,none⟩ ⟨yb,i*3+1,none⟩ (O J (pos-x.p)) (by simp[hgy])).trans c1;have d2:=(World.cell?_setCell_other w ⟨g,j*4+2,none⟩ ⟨yb,i*3+2,none⟩ (O J (pos-x.p)) (by simp[hgy])).trans HC2.o;have d3:=(World.cell?_setCell_other w ⟨g,j*4+2,none⟩ ⟨g,j*4+1,none⟩ (O J (pos-x.p)) (by simp)).trans k1;have d4:=ff k2 (O J (pos-x.p));have hb1:But (fun q=>q=g) w (w.setCell ⟨g,j*4+2,none⟩ (O J (pos-x.p))):=(But.refl (fun q=>q=g) w).at1 rfl _ _;have e0:=(World.frozen?_setCell w ⟨g,j*4+2,none⟩ _ (O J (pos-x.p))).trans f0;have e1:=(World.frozen?_setCell w ⟨g,j*4+2,none⟩ _ (O J (pos-x.p))).trans f1;have e2:=(World.frozen?_setCell w ⟨g,j*4+2,none⟩ _ (O J (pos-x.p))).trans f2;have hyl2:=Nat.lt_of_lt_of_le hyl hb1.size;refine zq (w:=w.setCell ⟨g,j*4+2,none⟩ (O J (pos-x.p))) (fun V=>WayP w base yb n c Y i b 0 V b (l.set j {x with d:=pos-x.p})/\V.cell? ⟨yb,i*3,none⟩=some (.slice (some ⟨g,0,none⟩) m cp)/\V.cell? ⟨yb,i*3+1,none⟩=some (O J b.t)/\V.cell? ⟨yb,i*3+2,none⟩=some (O J b.n)/\V.cell? ⟨g,j*4+1,none⟩=some (O J x.p)/\V.cell? ⟨g,j*4+2,none⟩=some (O J (pos-x.p))/\V.frozen? ⟨yb,i*3,none⟩=false/\V.frozen? ⟨yb,i*3+1,none⟩=false/\V.frozen? ⟨yb,i*3+2,none⟩=false/\yb<V.heap.size) ⟨HWT.o,d0,d1,d2,d3,d4,e0,e1,e2,hyl2⟩ fh ?_;clear d0 d1 d2 d3 d4 e0 e1 e2 hyl2 hb1;have HWI:=ze HW.o;clear HW;rintro V ⟨hWT,d0,d1,d2,d3,d4,e0,e1,e2,hyl2⟩ -;clear c0 c1 c2 k1 k2 k3 kf f0 f1 f2 HC2 HWT;have HP0:=ze hWT;have HW:=ze (show Way V base yb n c Y i b (l.set j {x with d:=pos-x.p})from(show Y.set i b=Y from Ys HWI.o.at_)▸hWT.way);have HC2:=ze d2;have HLL2:=ze (show(l.set j {x with d:=pos-x.p}).length<=1000000000 by rw[List.length_set];exact HLL.o);clear hWT;have HO:=ze HW.o.legs;go_quiet(fail);clear m1 m2;go_wp2_with fail
 try clear h9
 refine zq (w:=V) (fun V2=>Way V2 base yb n c Y i b (l.set j {x with d:=pos-x.p})/\V2.cell? ⟨yb,i*3,none⟩=some (.slice (some ⟨g,0,none⟩) m cp)/\V2.cell? ⟨yb,i*3+1,none⟩=some (O J b.t)/\V2.cell? ⟨yb,i*3+2,none⟩=some (O J b.n)/\V2.frozen? ⟨yb,i*3,none⟩=false/\V2.frozen? ⟨yb,i*3+1,none⟩=false/\V2.frozen? ⟨yb,i*3+2,none⟩=false/\yb<V2.heap.size) ⟨HW.o.below (zg fh _),by simpa using d0,by simpa using d1,by simpa using HC2.o,by simpa using e0,by simpa using e1,by simpa using e2,by simpa using hyl2⟩ (zg fh _) ?_;clear d0 d1 e0 e1 e2 hyl2 HC2 HO HW;rintro V2 ⟨hW2,c0,c1,c2,f0,f1,f2,hyl⟩ hbV;have HW:=ze hW2;have HBV:=ze hbV;have HC2:=ze c2;clear hW2 hbV;have HO:=ze HW.o.legs;go_region
 all_goals(
  go_wp2_with fail;exact bodyPost_ret (results_none rfl _ _ _) rfl ⟨rfl,_,_,WayP.trans0 HWI.o HP0.o (((HW.o.below fh.drew).two rfl HN2.o.1 HN2.o.2 ht).from_ HBV.o.drew)⟩)
theorem Uv(base yb n c:Nat)(Y:List Bu)(i:Nat)(b:Bu)(l:List Lg)(pos:Int)(door:Bool)(w:World)(h:Way w base yb n c Y i b l)(p0: -1000000<=pos)(p1:pos<=1000000)(ht:b.t+1<=10000000):
  Calls prog 194 #[.pointer (some ⟨yb,i*3,none⟩),O J pos,.bool door] w fun e w'=>e=.returned (.tuple #[])/\∃ b' l',WayP w base yb n c Y i b 1 w' b' l':=by
 rcases Nat.eq_zero_or_pos l.length with h0|h0
 ·exact Js base yb n c Y i b l pos door w h p0 p1 ht (.inl (List.eq_nil_of_length_eq_zero h0))
 ·have hx:l[l.length-1]?=some (l[l.length-1]'(by omega)):=List.getElem?_eq_getElem _;generalize l[l.length-1]'(by omega)=x at hx;by_cases hd:x.o=door
  ·by_cases hn:b.n=1
   ·by_cases h1: -1<=pos-x.p/\pos-x.p<=1
    ·exact bg base yb n c Y i b l pos door w h p0 p1 ht x hx h0 hd hn h1.1 h1.2
    ·exact Yt base yb n c Y i b l pos door w h p0 p1 ht x hx h0 hd (.inr ⟨hn,by omega⟩)
   ·exact Yt base yb n c Y i b l pos door w h p0 p1 ht x hx h0 hd (.inl hn)
  ·exact Js base yb n c Y i b l pos door w h p0 p1 ht (.inr ⟨x,hx,h0,hd⟩)
theorem Way.twoK{w:World}{base yb n c:Nat}{Y:List Bu}{i:Nat}{b:Bu}{l:List Lg}(h:Way w base yb n c Y i b l){k:Int}(hk:0<=k)(hy1:b.t+k<=10000000):
  WayP w base yb n c Y i b k ((w.setCell ⟨yb,i*3+1,none⟩ (O J (b.t+k))).setCell ⟨yb,i*3+2,none⟩ (O J (b.n+k))) ⟨b.v,b.t+k,b.n+k⟩ l:=by
 have h1:=h.setT (b.t+k);have hi:=(List.getElem?_eq_some_iff.1 h.at_).1;have h2:=(h1.storeF qg (by rw[List.length_set];exact h.len) (z:=i) (j:=2) (x:={b with t:=b.t+k}) (x':=⟨b.v,b.t+k,b.n+k⟩) (u:=O J (b.n+k)) (by rw[List.getElem?_set];simp[hi]) rfl (by omega)).1;rw[List.set_set]at h2;have hb2:But (fun q=>q=yb) w ((w.setCell ⟨yb,i*3+1,none⟩ (O J (b.t+k))).setCell ⟨yb,i*3+2,none⟩ (O J (b.n+k))):=((But.refl (fun q=>q=yb) w).at1 rfl _ _).at1 rfl _ _;refine⟨⟨h2,by rw[List.length_set];exact h.len,by rw[List.getElem?_set];simp[hi],Own.but h.legs hb2 (fun k hk=>h.ne k hk),h.ne,h.ok,by simp only;have:=h.t0;omega,by simp only;omega,by simp only;have:=h.n0;omega,by simp only;have:=h.n1;omega,by simp only;have:=h.ll;omega⟩,rfl,hb2.mono (fun q _ hq=>.inl hq),fun q hq=>.inl hq⟩
theorem Way.trans2{W w1 w2:World}{base yb n c:Nat}{Y:List Bu}{i:Nat}{b b1 b2:Bu}{l l1 l2:List Lg}{j:Nat}(h0:Way W base yb n c Y i b l)(h:WayP W base yb n c Y i b j w1 b1 l1)(h':WayP w1 base yb n c (Y.set i b1) i b1 1 w2 b2 l2):WayP W base yb n c Y i b ((j+1:Nat):Int) w2 b2 l2:=by
 have:=WayP.trans h0 h h'
 rwa [show((j+1:Nat):Int)=(j:Int)+1 by omega]
theorem bh{a b:Int}(h0: -1<=a)(h1:a<=1)(h2:0<=b)(h3:b<=3): -3<=a*b/\a*b<=3:=by
 rcases(show a=-1\/a=0\/a=1 by omega)with rfl|rfl|rfl<;>omega
theorem Jt(base yb n c:Nat)(Y:List Bu)(i:Nat)(b:Bu)(l:List Lg)(pos d N:Int)(door:Bool)(w:World)(h:Way w base yb n c Y i b l)(p0: -100000<=pos)(p1:pos<=100000)(d0: -1<=d)(d1:d<=1)(N0:0<=N)(N1:N<=1000000)(ht:b.t+N<=10000000):
  Calls prog 144 #[.pointer (some ⟨yb,i*3,none⟩),.agg #[O J pos,O J d,O J N,.bool door]] w fun e w'=>e=.returned (.tuple #[])/\∃ b' l',WayP w base yb n c Y i b N w' b' l':=by
 have HW0:=ze h;clear h;go_enter func144,ntmps144;go_wp2_with fail;have HB:=ze ((Below.refl w.heap.size w).alloc fi (.cells #[O J pos,O J d,O J N,.bool door] 272));have HX:=ze (Bx.new w [O J pos,O J d,O J N,.bool door] 272);have hzz:w.heap.size<(w.alloc (.cells #[O J pos,O J d,O J N,.bool door] 272)).heap.size:=by simp
 have HW1:=ze (HW0.o.below HB.o);have hyl0:=HW0.o.lt.1;have hbl0:=ze (fun q(hq:b.v.ownBlock=some q)=>(HW0.o.legs.row.lt q hq).2);generalize w.alloc (.cells #[O J pos,O J d,O J N,.bool door] 272)=W at*;generalize hr:w.heap.size=r at*
 go_loopw [4] (fun k wr=>∃(j:Nat)(b1:Bu)(l1:List Lg),k=O J j/\(j:Int)<=3/\(j:Int)<=N/\Bx wr r [O J pos,O J d,O J N,.bool door]/\WayP W base yb n c Y i b j wr b1 l1) (fun k _=>3-(intOf k).toNat)
 case atStart=>exact⟨0,b,l,rfl,by omega,by omega,HX.o,WayP.refl HW1.o⟩
 case round=>
  obtain⟨j,b1,l1,rfl,hj3,hjN,hbx,hwp⟩:=hrel;have HWP:=ze hwp;have HBX:=ze hbx;have ht1:b1.t=b.t+j:=hwp.t;have hryl:r<wr.heap.size:=Nat.lt_of_lt_of_le hzz hwp.but.size;obtain⟨⟨c0,c1,c2,c3⟩,-⟩:=hbx.o4;have hm:=bh d0 d1 (show(0:Int)<=(j:Int) by omega) hj3;have hlt1:=hwp.way.lt.1;have HT1:=ze ht1;clear hwp hbx ht1;by_cases hc:(j:Int)<N/\(j:Int)<3
  ·obtain⟨hc1,hc2⟩:=hc;have hc3:j<3:=by omega
   have H1:=ze (Uv base yb n c (Y.set i b1) i b1 l1 (pos+d*(j:Int)) door wr HWP.o.way (by omega) (by omega) (by rw[HT1.o];omega));go_wp2_with(go_at_call 194;refine H1.o.mono ?_;rintro e w2 ⟨rfl,b2,l2,hP⟩;have HP2:=ze (HW1.o.trans2 HWP.o hP);have HBX2:=ze (HBX.o.but hP.but hryl (fun hx=>by rcases hx with hx|hx;exact absurd hx (by omega);rcases HWP.o.new _ hx with h3|h3;exact absurd (hbl0.o _ h3) (by omega);omega));clear hP);go_roundw
   case rel=>exact⟨j+1,b2,l2,by go_num,by omega,by omega,HBX2.o,HP2.o⟩
   case measure=>simp[intOf];omega
  ·by_cases hN:(j:Int)<N
   ·obtain rfl:j=3:=by omega
    clear hc;have HTK:=ze (HWP.o.way.twoK (k:=N-3) (by omega) (by rw[HT1.o];omega));obtain⟨⟨e0,e1,e2⟩,f0,f1,f2⟩:=HWP.o.way.cells;have t0:=HWP.o.way.t0;have t1:=HWP.o.way.t1;have n0:=HWP.o.way.n0;have n1:=HWP.o.way.n1;have hne:¬ r=yb:=by omega
    have hne':¬ yb=r:=by omega
    go_wp2_with fail;go_region;go_wp2_with fail;go_region;go_wp2_with fail;have hfin:=(WayP.trans HW1.o HWP.o (HTK.o.below (w2:=((wr.setCell ⟨yb,i*3+1,none⟩ (O J (b1.t+(N-3)))).setCell ⟨yb,i*3+2,none⟩ (O J (b1.n+(N-3)))).drew.drew) fh.drew.drew)).from_ (hr▸HB.o);rw[show((3:Nat):Int)+(N-3)=N by omega]at hfin;have HFIN:=ze hfin;clear hfin;go_end0;exact⟨rfl,_,_,HFIN.o⟩
   ·obtain rfl:N=(j:Int):=by omega
    have hc3:¬ ((j:Int)<(j:Int)):=by omega
    clear hc hN;go_wp2_with fail;go_end0;exact⟨rfl,b1,l1,HWP.o.from_ (Eq.subst (motive:=fun n=>Below n w _) hr.symm HB.o)⟩
end
section
open Go.RowKit HB
theorem GP(l:List Lg):∀ u∈l.flatMap QX,u.oneCell'=true:=by
 intro u hu;obtain⟨g,-,h⟩:=List.mem_flatMap.1 hu;exact uh g u h
theorem QB(q o:Nat)(A:Option Addr)(n k B:Nat)(l:List Lg)(w:World)(hc:w.cell? ⟨q,o,none⟩=some (.slice A n k))(hr:Rd w B 4 A n (l.flatMap QX))(hl:l.length=n)(hB:B<=w.heap.size)(hn:n<=1000000):
  Calls prog 316 #[.pointer (some ⟨q,o,none⟩)] w fun e w'=>∃ v,e=.returned v/\Own w' w.heap.size 375 4 QX v l/\fj w w':=by
 have HR:=ze hr;have HL:=ze hl;clear hr hl;go_enter func316,ntmps316;go_wp2_with(at_builtin;refine qe rfl _ _ 266 rfl underlying266 Leg.info rfl (by omega) (by omega) rfl (Own.nil w w.heap.size 375 4 QX) l B A n k rfl HL.o HR.o (GP _) (by simp) (by omega) fi ?_;intro v1 w1 hown1 hb1);go_ret;exact⟨_,rfl,hown1,hb1⟩
theorem Strs.info:(prog.info? 9).map (fun i=>(i.zero,i.size,i.bytes))=some (some (.string ⟨#[]⟩),1,16):=by kernel_rfl
abbrev dT(s:ByteArray):List Value:=[.string s]
theorem xB(s:ByteArray)(a b:Nat):(s.extract a b).data.toList=(s.data.toList.drop a).take (b-a):=by
 rw[ByteArray.data_extract,Array.toList_extract,List.extract_eq_take_drop]
theorem vf(s:ByteArray)(i:Nat)(h:i<s.size):s.data.toList.drop i=s[i]::s.data.toList.drop (i+1):=by
 rw[List.drop_eq_getElem_cons (by simpa using h)];rfl
theorem Vo(s:ByteArray)(f i:Nat)(hf:f<=i)(h:i<s.size):(s.data.toList.drop f).take (i+1-f)=(s.data.toList.drop f).take (i-f)++[s[i]]:=by
 rw[show i+1-f=(i-f)+1 by omega,List.take_add_one,List.getElem?_drop,show f+(i-f)=i by omega,List.getElem?_eq_getElem (by simpa using h)]
 rfl
theorem Zl(c:UInt8)(s cur:List UInt8):yO (c::s) cur=if c=32 then(if cur=[]then yO s []else cur::yO s [])else yO s (cur++[c]):=rfl
def CellR(s:ByteArray)(i f:Nat)(l:List ByteArray):Prop:=i<=s.size+1/\f<=i/\l.length<=i/\(i<=s.size->l.map (·.data.toList)++yO (s.data.toList.drop i) ((s.data.toList.drop f).take (i-f))=yO s.data.toList [])/\(i=s.size+1->l.map (·.data.toList)=yO s.data.toList [])
theorem CellR.zero(s:ByteArray):CellR s 0 0 []:=⟨by omega,by omega,by simp,fun _=>by simp,fun h=>by omega⟩
theorem CellR.next{s:ByteArray}{i f:Nat}{l:List ByteArray}(h:CellR s i f l)(hi:i<s.size)(hc:s[i]≠32):CellR s (i+1) f l:=by
 obtain⟨h1,h2,h3,h4,h5⟩:=h;refine⟨by omega,by omega,by omega,fun _=>?_,fun h=>by omega⟩;have:=h4 (by omega);rw[vf s i hi,Zl,if_neg hc,<-Vo s f i h2 hi]at this;exact this
theorem YE{s:ByteArray}{i f:Nat}(hf:f<=i)(hi:i<=s.size):(s.data.toList.drop f).take (i-f)=[]↔f=i:=by
 constructor
 ·intro h;have:=congrArg List.length h;simp at this;omega
 ·intro h;subst h;simp
theorem CellR.word{s:ByteArray}{i f:Nat}{l:List ByteArray}(h:CellR s i f l)(hf:f<i)(hc:∀ h:i<s.size,s[i]=32)(hi:i<=s.size):CellR s (i+1) (i+1) (l++[s.extract f i]):=by
 obtain⟨h1,h2,h3,h4,h5⟩:=h;have h6:=h4 hi;have hne:(s.data.toList.drop f).take (i-f)≠[]:=fun h=>by have:=(YE h2 hi).1 h;omega
 have hl:(l++[s.extract f i]).map (·.data.toList)=l.map (·.data.toList)++[(s.data.toList.drop f).take (i-f)]:=by
  rw[List.map_append,List.map_singleton,xB]
 refine⟨by omega,by omega,by simp;omega,fun h7=>?_,fun h7=>?_⟩
 ·rw[vf s i (by omega),Zl,if_pos (hc (by omega)),if_neg hne]at h6;rw[hl,Nat.sub_self,List.take_zero,List.append_assoc];exact h6
 ·obtain rfl:i=s.size:=by omega
  rw[List.drop_of_length_le (by simp)]at h6;rw[hl,<-h6];unfold yO;rw[if_neg hne]
theorem CellR.skip{s:ByteArray}{i f:Nat}{l:List ByteArray}(h:CellR s i f l)(hf:¬ f<i)(hc:∀ h:i<s.size,s[i]=32)(hi:i<=s.size):CellR s (i+1) (i+1) l:=by
 obtain⟨h1,h2,h3,h4,h5⟩:=h;have h6:=h4 hi;have hn:(s.data.toList.drop f).take (i-f)=[]:=(YE h2 hi).2 (by omega);rw[hn]at h6;refine⟨by omega,by omega,by omega,fun h7=>?_,fun h7=>?_⟩
 ·rw[vf s i (by omega),Zl,if_pos (hc (by omega)),if_pos rfl]at h6;rw[Nat.sub_self,List.take_zero];exact h6
 ·obtain rfl:i=s.size:=by omega
  rw[List.drop_of_length_le (by simp)]at h6;rw[<-h6];unfold yO;rw[if_pos rfl,List.append_nil]
theorem XU(s:ByteArray)(w:World)(hs:s.size<=999999999):
  Calls prog 15 #[.string s] w fun e w'=>∃ v l,e=.returned v/\Own w' w.heap.size 9 1 dT v l/\l.map (·.data.toList)=yO s.data.toList []/\fj w w':=by
 go_enter func15,ntmps15;go_wp2_with fail
 go_loopw [3,4,5] (fun v f i wr=>∃(a b:Nat)(l:List ByteArray),f=O J a/\i=O J b/\Hz (CellR s b a l)/\Own wr w.heap.size 9 1 dT v l/\fj w wr) (fun _ _ i _=>s.size+1-(intOf i).toNat)
 case atStart=>exact⟨0,0,[],rfl,rfl,ze (CellR.zero s),Own.nil _ _ _ _ _,fh⟩
 case round=>
  obtain⟨f,i,l,rfl,rfl,HC,hown,hb⟩:=hrel;have HO:=ze hown;have HB:=ze hb;have hz:=hb.size;clear hown hb;have i0:(0:Int)<=(i:Int):=by omega
  have f0:(0:Int)<=(f:Int):=by omega
  have hin:=HC.o.1;have hfi:=HC.o.2.1;have hln:l.length<=1000000000:=by have:=HC.o.2.2.1;omega
  by_cases hle:i<=s.size
  ·have h1:decide ((i:Int)<=(s.size:Int))=true:=by simp;omega
   by_cases hlt:i<s.size
   ·have h2:decide ((i:Int)<(s.size:Int))=true:=by simp;omega
    by_cases hc:s[i]=32
    ·have h3:(((s[i]'hlt).toNat:Int) !=32)=false:=by rw[hc];rfl
     have HCC:=ze hc;clear hc;by_cases hf:f<i
     ·have h4:decide ((i:Int)>(f:Int))=true:=by simp;omega
      have HX:=ze (HC.o.word hf (fun _=>HCC.o) hle);go_wp2_with(at_builtin;refine push rfl _ _ 49 rfl underlying49 Strs.info rfl (by omega) (by omega) rfl (HO.o.alloc _) (s.extract f i) ⟨_,0,none⟩ 1 rfl rfl (cell_one_new _ _ _) (by simp[Value.oneCell']) hln (by simp;omega) ?_;intro v' w2 hown2 hb2);go_roundw
      case rel=>exact⟨i+1,i+1,l++[s.extract f i],by go_num,by go_num,HX,hown2,(HB.o.alloc hz _).trans hb2⟩
      case measure=>simp[intOf];omega
     ·have h4:decide ((i:Int)>(f:Int))=false:=by simp;omega
      have HX:=ze (HC.o.skip hf (fun _=>HCC.o) hle);go_wp2_with fail;go_roundw
      case rel=>exact⟨i+1,i+1,l,by go_num,by go_num,HX,HO.o,HB.o⟩
      case measure=>simp[intOf];omega
    ·have h3:(((s[i]'hlt).toNat:Int) !=32)=true:=by
      simp only[bne_iff_ne,ne_eq];intro e;exact hc (UInt8.toNat_inj.1 (by rw[show(32:UInt8).toNat=32 from rfl];omega))
     have HX:=ze (HC.o.next hlt hc);clear hc;go_wp2_with fail;go_roundw
     case rel=>exact⟨f,i+1,l,rfl,by go_num,HX,HO.o,HB.o⟩
     case measure=>simp[intOf];omega
   ·have h2:decide ((i:Int)<(s.size:Int))=false:=by simp;omega
    by_cases hf:f<i
    ·have h4:decide ((i:Int)>(f:Int))=true:=by simp;omega
     have HX:=ze (HC.o.word hf (fun h=>absurd h hlt) hle);go_wp2_with(at_builtin;refine push rfl _ _ 49 rfl underlying49 Strs.info rfl (by omega) (by omega) rfl (HO.o.alloc _) (s.extract f i) ⟨_,0,none⟩ 1 rfl rfl (cell_one_new _ _ _) (by simp[Value.oneCell']) hln (by simp;omega) ?_;intro v' w2 hown2 hb2);go_roundw
     case rel=>exact⟨i+1,i+1,l++[s.extract f i],by go_num,by go_num,HX,hown2,(HB.o.alloc hz _).trans hb2⟩
     case measure=>simp[intOf];omega
    ·have h4:decide ((i:Int)>(f:Int))=false:=by simp;omega
     have HX:=ze (HC.o.skip hf (fun h=>absurd h hlt) hle);go_wp2_with fail;go_roundw
     case rel=>exact⟨i+1,i+1,l,by go_num,by go_num,HX,HO.o,HB.o⟩
     case measure=>simp[intOf];omega
  ·have h1:decide ((i:Int)<=(s.size:Int))=false:=by simp;omega
   have HX:=ze (HC.o.2.2.2.2 (by omega));go_wp2_with fail;go_ret;exact⟨_,l,rfl,HO.o,HX.o,HB.o⟩
def TailI(s:ByteArray)(i f:Nat)(l:List ByteArray):Prop:=i<=s.size/\f<=i/\l.length<=i/\l.map (·.data.toList)++vN (s.data.toList.drop i) ((s.data.toList.drop f).take (i-f))=vN s.data.toList []
theorem TailI.zero(s:ByteArray):TailI s 0 0 []:=⟨by omega,by omega,by simp,by simp⟩
theorem TailI.next{s:ByteArray}{i f:Nat}{l:List ByteArray}(h:TailI s i f l)(hi:i<s.size)(hc:s[i]≠10):TailI s (i+1) f l:=by
 obtain⟨h1,h2,h3,h4⟩:=h;refine⟨by omega,by omega,by omega,?_⟩;rw[vf s i hi,ve,if_neg hc,<-Vo s f i h2 hi]at h4;exact h4
theorem TailI.line{s:ByteArray}{i f:Nat}{l:List ByteArray}(h:TailI s i f l)(hi:i<s.size)(hc:s[i]=10):TailI s (i+1) (i+1) (l++[s.extract f i]):=by
 obtain⟨h1,h2,h3,h4⟩:=h;refine⟨by omega,by omega,by simp;omega,?_⟩;rw[vf s i hi,ve,if_pos hc]at h4;rw[Nat.sub_self,List.take_zero,List.map_append,List.map_singleton,xB,List.append_assoc];exact h4
theorem TailI.all{s:ByteArray}{f:Nat}{l:List ByteArray}(h:TailI s s.size f l):l.map (·.data.toList)=vN s.data.toList []:=by
 obtain⟨h1,h2,h3,h4⟩:=h;rw[List.drop_of_length_le (by simp)]at h4;simpa[vN]using h4
def dU(s:ByteArray)(m:Nat)(w:World)(e:Ending)(w':World):Prop:=
 ∃(A:Option Addr)(n c:Nat)(l:List ByteArray),e=.returned (.slice A n c)/\Rd w' w'.heap.size 1 A n (l.map Value.string)/\l.length=n/\l.map (·.data.toList)=(if(vN s.data.toList []).length<m then[]else(vN s.data.toList []).drop ((vN s.data.toList []).length-m))/\fj w w'
theorem Hx(l:List ByteArray):l.flatMap dT=l.map Value.string:=by
 induction l with
 |nil=>rfl
 |cons x l ih=>rw[List.flatMap_cons,List.map_cons,ih];rfl
theorem Hy(s:ByteArray)(m:Nat)(w:World)(hs:s.size<=1000000000)(hm:1<=m)(hm1:m<=1000):
  Calls prog 12 #[.string s,O J m] w (dU s m w):=by
 go_enter func12,ntmps12;go_wp2_with fail
 go_loopw [5,6,7] (fun v f i wr=>∃(a b:Nat)(l:List ByteArray),f=O J a/\i=O J b/\Hz (TailI s b a l)/\Own wr w.heap.size 9 1 dT v l/\fj w wr) (fun _ _ i _=>s.size-(intOf i).toNat)
 case atStart=>exact⟨0,0,[],rfl,rfl,ze (TailI.zero s),Own.nil _ _ _ _ _,fh⟩
 case round=>
  obtain⟨f,i,l,rfl,rfl,HC,hown,hb⟩:=hrel;have HO:=ze hown;have HB:=ze hb;have hz:=hb.size;clear hown hb;have i0:(0:Int)<=(i:Int):=by omega
  have f0:(0:Int)<=(f:Int):=by omega
  have hin:=HC.o.1;have hfi:=HC.o.2.1;have hln:l.length<=1000000000:=by have:=HC.o.2.2.1;omega
  by_cases hlt:i<s.size
  ·have h2:decide ((i:Int)<(s.size:Int))=true:=by simp;omega
   by_cases hc:s[i]=10
   ·have h3:(((s[i]'hlt).toNat:Int)==10)=true:=by rw[hc];rfl
    have HX:=ze (HC.o.line hlt hc);clear hc;go_wp2_with(at_builtin;refine push rfl _ _ 49 rfl underlying49 Strs.info rfl (by omega) (by omega) rfl (HO.o.alloc _) (s.extract f i) ⟨_,0,none⟩ 1 rfl rfl (cell_one_new _ _ _) (by simp[Value.oneCell']) hln (by simp;omega) ?_;intro v' w2 hown2 hb2);go_roundw
    case rel=>exact⟨i+1,i+1,l++[s.extract f i],by go_num,by go_num,HX,hown2,(HB.o.alloc hz _).trans hb2⟩
    case measure=>simp[intOf];omega
   ·have h3:(((s[i]'hlt).toNat:Int)==10)=false:=by
     simp only[beq_eq_false_iff_ne,ne_eq];intro e;exact hc (UInt8.toNat_inj.1 (by rw[show(10:UInt8).toNat=10 from rfl];omega))
    have HX:=ze (HC.o.next hlt hc);clear hc;go_wp2_with fail;go_roundw
    case rel=>exact⟨f,i+1,l,rfl,by go_num,HX,HO.o,HB.o⟩
    case measure=>simp[intOf];omega
  ·have h2:decide ((i:Int)<(s.size:Int))=false:=by simp;omega
   obtain rfl:i=s.size:=by omega
   have HX:=ze HC.o.all;have HXL:=ze (show l.length=(vN s.data.toList []).length from by rw[<-HX.o,List.length_map]);obtain⟨A,c,rfl,hlc,hrd⟩:=HO.o.shape;have HR:=ze hrd;clear hrd;by_cases hlm:l.length<m
   ·have h5:decide (l.length<m)=true:=by simpa using hlm
    have h6:decide ((l.length:Int)<(m:Int))=true:=by simpa using hlm
    go_wp2_with fail;go_ret;exact⟨none,0,0,[],rfl,⟨rfl,fun h=>by omega⟩,rfl,by rw[<-HXL.o,if_pos hlm];rfl,HB.o⟩
   ·have h5:decide (l.length<m)=false:=by simpa using hlm
    have h6:decide ((l.length:Int)<(m:Int))=false:=by simpa using hlm
    obtain⟨k,hk⟩:∃ k,l.length=k+m:=⟨l.length-m,by omega⟩;obtain⟨b,off,rfl,hbb,hcell⟩:=HR.o.2 (by omega);have HCL:=ze hcell;have g0:(0:Int)<=(l.length:Int)-(m:Int):=by omega
    have g1:(l.length:Int)-(m:Int)<=(l.length:Int):=by omega
    have g2:((l.length:Int)-(m:Int)).toNat=k:=by omega
    have g3:¬ c=k:=by omega
    have HK:=ze hk;have HG:=ze g2;clear hcell hk;go_wp2_with fail;go_ret;refine⟨some ⟨b,off+k,none⟩,l.length-k,c-k,l.drop k,rfl,⟨by simp,fun _=>⟨b,off+k,rfl,hbb,fun j u hu=>?_⟩⟩,by simp,?_,HB.o⟩
    ·rw[Nat.add_assoc];refine HCL.o (k+j) u ?_;rw[List.getElem?_map,List.getElem?_drop]at hu;rw[Hx,List.getElem?_map];exact hu
    ·rw[<-HXL.o,if_neg hlm,<-HX.o,List.map_drop]
     congr 1;have:=HK.o;omega
end
end Go.Proofs.YtdeogmbfgkepeaaGreatDoor
