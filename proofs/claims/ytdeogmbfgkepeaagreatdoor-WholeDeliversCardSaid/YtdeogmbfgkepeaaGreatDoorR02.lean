/- Contracts for WholeDelivers. -/
import Derived.BigQuiet
import Derived.ChangeOld
import Derived.Deep.DrawnRows
import Derived.Deep.Fields
import Derived.Deep.QuietTactic
import Derived.Deep.RegionHeld3
import Derived.Deep.Slices
import Derived.Handy
import Derived.KernelRfl
import Derived.OpenShut
import Derived.ProofKit
import Derived.WalkKit
import Derived.WalkLawsBesides
import Derived.WalkSpells
import Derived.Test.YtdeogmbfgkepeaaGreatDoorRows
set_option linter.unusedVariables false
set_option linter.unusedSimpArgs false
set_option maxRecDepth 100000
set_option maxHeartbeats 64000000
namespace Go.Proofs.YtdeogmbfgkepeaaGreatDoor
open Go.Proofs.Tryz
section
namespace HB
open Go.ChangeShapes Go.WideShapes Go.ChangeAt Go.RowKit
def Hz(p:Prop):Prop:=p
theorem Hz.o{p:Prop}(h:Hz p):p:=h
theorem ze{p:Prop}(h:p):Hz p:=h
theorem j8{a b:Bool}(h:a=b):Ending.returned (.bool a)=.returned (.bool b):=by rw[h]
theorem zJ{k:IntKind}{a b:Int}(h:a=b):Ending.returned (.int k a)=.returned (.int k b):=by rw[h]
theorem j9{Q:World->Prop}{w W:World}(S:World->Prop)(hS:S W)(hb:Below w.heap.size w W)(hsz:w.heap.size<W.heap.size)
  (h:∀ W':World,S W'->Below w.heap.size w W'->w.heap.size<W'.heap.size->Q W'):Q W:=h W hS hb hsz
theorem dW{B k:Nat}{W w1:World}(hb:Below B W w1)(h:k<W.heap.size):k<w1.heap.size:=Nat.lt_of_lt_of_le h hb.size
theorem then_{B:Nat}{a b c:World}(h:Below B a b)(k:Below b.heap.size b c)(hB:B<=a.heap.size):Below B a c:=h.trans (k.mono (Nat.le_trans hB h.size))
theorem ZO{b a:Nat}(h:b<a):b<a/\b<=a/\b<a+1/\b<=a+1/\b<a+2/\b<=a+2/\b<a+3/\b<=a+3/\b<a+4/\b<=a+4/\b<a+1+1/\b<a+1+1+1/\b<a+1+1+1+1:=by omega
theorem zG{W w1:World}{p:Addr}(hb:Below W.heap.size W w1)(hp:p.block<W.heap.size)(h:W.frozen? p=false):w1.frozen? p=false:=(hb.frozen hp).trans h
theorem ff{W:World}{p:Addr}{u:Value}(h:W.cell? p=some u)(v:Value):(W.setCell p v).cell? p=some v:=World.cell?_setCell_same W p v h
theorem ZP{W:World}{p:Addr}{u:Value}(q:Addr)(hne:p≠q)(h:W.cell? p=some u)(v v':Value):((W.setCell q v').setCell p v).cell? p=some v:=
 ff ((World.cell?_setCell_other W q p v' (Ne.symm hne)).trans h) v
theorem zg{B:Nat}{a w:World}(h:Below B a w)(n:Nat):Below B a (w.drewN n):=⟨h.os,h.tape,h.output,h.size,h.block⟩
theorem zf{W w1:World}{p:Addr}{v:Value}(hb:Below W.heap.size W w1)(h:W.cell? p=some v):w1.cell? p=some v:=(hb.cell (World.block_lt_of_cell? W p h)).trans h
section
variable{P:Program}(w:World)
theorem Y1(k k':IntKind)(x y:Int):(Builtin.min2 (.int k x) (.int k' y):Sem Value)=pure (.int k (min x y)):=by
 have e:(if y<x then y else x)=min x y:=by rw[Int.min_def];split<;>split<;>omega
 simp[Builtin.min2,e]
theorem Y2(k k':IntKind)(x y:Int):(Builtin.max2 (.int k x) (.int k' y):Sem Value)=pure (.int k (max x y)):=by
 have e:(if x<y then y else x)=max x y:=by rw[Int.max_def];split<;>split<;>omega
 simp[Builtin.max2,e]
@[go_sem high] theorem de (ts:Array TypeId) (t:TypeId) (k k':IntKind) (x y:Int):(Builtin.min_ ts t #[.int k x,.int k' y]).run P w=.ok (.int k (min x y)) w:=by
 simp[Builtin.min_,Y1]
@[go_sem high] theorem df (ts:Array TypeId) (t:TypeId) (k k':IntKind) (x y:Int):(Builtin.max_ ts t #[.int k x,.int k' y]).run P w=.ok (.int k (max x y)) w:=by
 simp[Builtin.max_,Y2]
@[go_sem high] theorem dg (ts:Array TypeId) (t:TypeId) (k k1 k2 k3:IntKind) (x y z u:Int):(Builtin.min_ ts t #[.int k x,.int k1 y,.int k2 z,.int k3 u]).run P w=.ok (.int k (min (min (min x y) z) u)) w:=by
 simp[Builtin.min_,Y1]
@[go_sem high] theorem dh (ts:Array TypeId) (t:TypeId) (k k1 k2 k3:IntKind) (x y z u:Int):(Builtin.max_ ts t #[.int k x,.int k1 y,.int k2 z,.int k3 u]).run P w=.ok (.int k (max (max (max x y) z) u)) w:=by
 simp[Builtin.max_,Y2]
end
section
variable{H:Type}{enc:TypeId×Value->H}{P:Program}{W W':World}
theorem vv(hl:laidOutB P=true)(hb:Below W.heap.size W W'):
  ∀{ts:List TypeId}{vs:List Value}{ds:List (DataW H)}{ps:List MemPlace},(∀t∈ts,P.readableRec t=true/\t<P.types.size)->
   DataW.TrodAll enc P W 0 (fun _=>true) true ts vs ds ps->DataW.TrodAll enc P W' 0 (fun b=>decide (b<W.heap.size)) true ts vs ds ps
 |[],[],[],_,_,h=>h
 |t::ts,v::vs,d::ds,_,ht,⟨p,q,h1,h2,e⟩=>by
  have k:=ht t (List.mem_cons_self ..);refine⟨p,q,Below.trod hl k.1 k.2 h1 hb ?_,vv hl hb (fun t' h'=>ht t' (List.mem_cons_of_mem _ h')) h2,e⟩;obtain⟨m,hm⟩:=h1;exact DataW.trod_lt m _ _ _ hm
 |[],_::_,_,_,_,h=>by cases h
 |[],[],_::_,_,_,h=>by cases h
 |_::_,[],_,_,_,h=>by cases h
 |_::_,_::_,[],_,_,h=>by cases h
end
theorem flat_length{α:Type}{f:α->List Value}{m:Nat}(hf:∀ x,(f x).length=m):∀ l:List α,(l.flatMap f).length=l.length*m
 |[]=>by simp
 |x::l=>by rw[List.flatMap_cons,List.length_append,hf,flat_length hf l,List.length_cons,Nat.succ_mul,Nat.add_comm]
theorem flat_get{α:Type}{f:α->List Value}{m:Nat}(hf:∀ x,(f x).length=m):∀(l:List α)(i j:Nat)(x:α),l[i]?=some x->j<m->(l.flatMap f)[i*m+j]?=(f x)[j]?
 |[],i,j,x,h,_=>by simp at h
 |y::l,0,j,x,h,hj=>by
  simp only[List.getElem?_cons_zero,Option.some.injEq]at h;subst h;rw[List.flatMap_cons,Nat.zero_mul,Nat.zero_add,List.getElem?_append_left (by rw[hf];exact hj)]
 |y::l,i+1,j,x,h,hj=>by
  rw[List.getElem?_cons_succ]at h;rw[List.flatMap_cons,List.getElem?_append_right (by rw[hf,Nat.succ_mul];omega),hf,show(i+1)*m+j-m=i*m+j from by rw[Nat.succ_mul];omega];exact flat_get hf l i j x h hj
theorem li{α:Type}{f:α->List Value}{m:Nat}(hf:∀ x,(f x).length=m)(l:List α)(q:Nat)(u:Value)(h:(l.flatMap f)[q]?=some u):∃ i j x,q=i*m+j/\j<m/\l[i]?=some x/\(f x)[j]?=some u:=by
 have hq:q<l.length*m:=by rw[<-flat_length hf];exact(List.getElem?_eq_some_iff.1 h).1
 have hm:0<m:=by
  rcases Nat.eq_zero_or_pos m with h0|h0
  ·subst h0;simp at hq
  ·exact h0
 have hi:q/m<l.length:=(Nat.div_lt_iff_lt_mul hm).2 hq;have e:q=q/m*m+q%m:=by rw[Nat.mul_comm];exact(Nat.div_add_mod q m).symm
 refine⟨q/m,q%m,l[q/m],e,Nat.mod_lt _ hm,List.getElem?_eq_getElem hi,?_⟩;rw[<-flat_get hf l _ _ _ (List.getElem?_eq_getElem hi) (Nat.mod_lt q hm),<-e];exact h
theorem xE{α:Type}{f:α->List Value}{m:Nat}(hf:∀ x,(f x).length=m):∀(l:List α)(k:Nat),(l.flatMap f).take (k*m)=(l.take k).flatMap f
 |[],k=>by simp
 |x::l,0=>by simp
 |x::l,k+1=>by
  rw[List.flatMap_cons,List.take_succ_cons,List.flatMap_cons,<-xE hf l k,List.take_append,hf,List.take_of_length_le (by rw[hf,Nat.succ_mul];omega),show(k+1)*m-m=k*m from by rw[Nat.succ_mul];omega]
theorem qm{α:Type}{f:α->List Value}{m:Nat}(hf:∀ x,(f x).length=m):∀(l:List α)(k:Nat),(l.flatMap f).drop (k*m)=(l.drop k).flatMap f
 |[],k=>by simp
 |x::l,0=>by simp
 |x::l,k+1=>by
  rw[List.flatMap_cons,List.drop_succ_cons,<-qm hf l k,List.drop_append,hf,List.drop_of_length_le (by rw[hf,Nat.succ_mul];omega),show(k+1)*m-m=k*m from by rw[Nat.succ_mul];omega];simp
def Rd(w:World)(B sz:Nat)(A:Option Addr)(n:Nat)(xs:List Value):Prop:=
 xs.length=n*sz/\(0<n->∃ b off,A=some ⟨b,off,none⟩/\b<B/\∀ j u,xs[j]?=some u->w.cell? ⟨b,off+j,none⟩=some u)
section
variable{w w':World}{B B' sz n:Nat}{A:Option Addr}{xs:List Value}
theorem Rd.nil:Rd w B sz A 0 []:=⟨by simp,fun h=>absurd h (by omega)⟩
theorem Rd.kept(h:Rd w B sz A n xs)(hk:∀ b o,b<B->w'.cell? ⟨b,o,none⟩=w.cell? ⟨b,o,none⟩):Rd w' B sz A n xs:=
 ⟨h.1,fun hn=>by
  obtain⟨b,off,e,hb,hc⟩:=h.2 hn;exact⟨b,off,e,hb,fun j u hu=>(hk _ _ hb).trans (hc j u hu)⟩⟩
theorem Rd.mono(h:Rd w B sz A n xs)(hB:B<=B'):Rd w B' sz A n xs:=
 ⟨h.1,fun hn=>by
  obtain⟨b,off,e,hb,hc⟩:=h.2 hn;exact⟨b,off,e,by omega,hc⟩⟩
theorem Rd.below(h:Rd w B sz A n xs)(hb:Below B w w'):Rd w' B sz A n xs:=h.kept fun b o h0=>hb.cell (p:=⟨b,o,none⟩) h0
theorem Rd.drew(h:Rd w B sz A n xs):Rd w.drew B sz A n xs:=h
theorem Rd.drewN(h:Rd w B sz A n xs)(k:Nat):Rd (w.drewN k) B sz A n xs:=h
theorem Rd.alloc(h:Rd w B sz A n xs)(hB:B<=w.heap.size)(o:Obj):Rd (w.alloc o) B sz A n xs:=h.below ((Below.refl _ _).alloc hB o)
theorem Rd.setCell(h:Rd w B sz A n xs){p:Addr}(hB:B<=p.block)(u:Value):Rd (w.setCell p u) B sz A n xs:=h.below ((Below.refl _ _).setCell hB u)
theorem Rd.grown(h:Rd w B sz A n xs){row:Option Nat}(hg:w.grownBy w' row)(hB:B<=w.heap.size)(hr:∀ k,row=some k->B<=k):Rd w' B sz A n xs:=h.below ((Below.refl _ _).grown hg hB hr)
theorem Rd.cut(h:Rd w B sz A n xs){k cap:Nat}(hk:k<=n)(hc:n<=cap):
  Rd w B sz (if cap=k then A else A.map (·.add (k*sz))) (n-k) (xs.drop (k*sz)):=by
 refine⟨by rw[List.length_drop,h.1,Nat.sub_mul],fun hn=>?_⟩;obtain⟨b,off,rfl,hb,h1⟩:=h.2 (by omega);rw[if_neg (by omega)];refine⟨b,off+k*sz,?_,hb,fun j u hu=>?_⟩
 ·simp only[Option.map_some,Option.some.injEq];unfold Addr.add;split
  ·rename_i h0;rw[h0];rfl
  ·rfl
 ·rw[Nat.add_assoc];exact h1 _ u (by rw[<-hu,List.getElem?_drop])
theorem Rd.front(h:Rd w B sz A n xs){k:Nat}(hk:k<=n):Rd w B sz A k (xs.take (k*sz)):=by
 refine⟨by rw[List.length_take,h.1];exact Nat.min_eq_left (Nat.mul_le_mul_right _ hk),fun hn=>?_⟩;obtain⟨b,off,rfl,hb,h0⟩:=h.2 (by omega);refine⟨b,off,rfl,hb,fun j u hu=>h0 j u ?_⟩;rw[List.getElem?_take]at hu;split at hu
 ·exact hu
 ·cases hu
theorem Rd.own{base:Nat}{e:TypeId}{c:Nat}(h:w.ownsRow base e sz (.slice A n c) n xs):Rd w w.heap.size sz A n xs:=by
 refine⟨h.1,fun hn=>?_⟩;rcases h.2 with⟨hv,h0⟩|⟨g,cap,cur,hv,hb,hg,_,_,_,ht⟩
 ·omega
 ·have hA:A=some ⟨g,0,none⟩:=by injection hv
  subst hA;have h1:g<w.heap.size:=(Array.getElem?_eq_some_iff.1 hg).1;refine⟨g,0,rfl,h1,fun j u hu=>?_⟩;have:=h.cells (g:=g) rfl j u hu;unfold Addr.add at this;split at this
  ·rename_i h0;subst h0;simpa using this
  ·exact this
theorem Rd.new(w:World)(e:TypeId){xs:List Value}{n:Nat}(hl:xs.length=n*sz):Rd (w.alloc (.cells xs.toArray e)) (w.heap.size+1) sz (some ⟨w.heap.size,0,none⟩) n xs:=
 ⟨hl,fun _=>⟨w.heap.size,0,rfl,by omega,fun j u hu=>by
  rw[Nat.zero_add,cell_of_row _ w.heap.size j xs.toArray e (0,0) (heap_alloc_new w _)];simpa using hu⟩⟩
theorem Rd.at_(h:Rd w B sz A n xs)(hn:0<n):∃ b off,A=some ⟨b,off,none⟩/\b<B/\∀ j u,xs[j]?=some u->w.cell? ⟨b,off+j,none⟩=some u:=h.2 hn
end
theorem Rd.int_at{w:World}{B n:Nat}{A:Option Addr}{k:IntKind}{l:List Int}(h:Rd w B 1 A n (l.map (Value.int k)))(hl:l.length=n){i:Nat}(hi:i<n):
  ∃b off x,A=some ⟨b,off,none⟩/\b<B/\l[i]?=some x/\w.cell? ⟨b,off+i,none⟩=some (.int k x):=by
 obtain⟨b,off,hA,hb,hc⟩:=h.at_ (by omega);have hg:l[i]?=some (l[i]'(by omega)):=List.getElem?_eq_getElem _;exact⟨b,off,_,hA,hb,hg,hc i _ (by rw[List.getElem?_map,hg];rfl)⟩
theorem Rd.elem_at{α:Type}{f:α->List Value}{w:World}{B n sz:Nat}{A:Option Addr}{l:List α}(hf:∀ x,(f x).length=sz)(h:Rd w B sz A n (l.flatMap f))(hl:l.length=n){i:Nat}(hi:i<n):
  ∃b off x,A=some ⟨b,off,none⟩/\b<B/\l[i]?=some x/\∀ j u,j<sz->(f x)[j]?=some u->w.cell? ⟨b,off+i*sz+j,none⟩=some u:=by
 obtain⟨b,off,hA,hb,hc⟩:=h.at_ (by omega);have hg:l[i]?=some (l[i]'(by omega)):=List.getElem?_eq_getElem _;refine⟨b,off,_,hA,hb,hg,fun j u hj hu=>?_⟩;rw[Nat.add_assoc];exact hc _ _ ((flat_get hf l i j _ hg hj).trans hu)
section
variable{H:Type}{enc:TypeId×Value->H}{P:Program}{w:World}{base:Nat}{spare:Nat->Bool}{held:Bool}
theorem ZQ{α:Type}[Inhabited α]{f:α->List Value}{m:Nat}(hf:∀ x,(f x).length=m)(hm:0<m){ok:α->Prop}{t e:TypeId}{fuel:Nat}{cs:List Value}{x:DataW H×List MemPlace}
  (ht:P.underlying t=some (.slice e))(hc:P.cellsOf e=m)
  (helem:∀(n:Nat)(cs':List Value)(y:DataW H×List MemPlace),DataW.trod enc P w base spare held n e cs'=some y->∃ x:α,cs'=f x/\ok x)
  (h:DataW.trod enc P w base spare held fuel t cs=some x):
  ∃(A:Option Addr)(n c:Nat)(l:List α),cs=[.slice A n c]/\l.length=n/\n<=c/\c<=maxLen/\(∀x∈l,ok x)/\Rd w w.heap.size m A n (l.flatMap f):=by
 rcases Go.Deep.open_slice ht h with⟨h5,_⟩|⟨a,len,cap,mm,n,D,Pl,h5,hb,hl,h9,hk,hx,hi⟩
 ·exact⟨none,0,0,[],h5,rfl,Nat.le_refl _,by simp[maxLen],(by intro x h;cases h),Rd.nil⟩
 ·have hw:len<=mm:=by rw[hk];split<;>omega
  have key:∀ i,i<len->∃ x:α,w.cells? base (a.add (i*m)) m=some (f x)/\ok x:=by
   intro i h1;obtain⟨cs',h2,hp⟩:=hi i (by omega);obtain⟨x,rfl,ho⟩:=helem n cs' _ hp;rw[hc]at h2;exact⟨x,h2,ho⟩
  obtain⟨g,hg⟩:=Go.Deep.choose_lt key;refine⟨some a,len,cap,(List.range len).map g,h5,by simp,hl,h9,?_,?_,?_⟩
  ·intro x hx';obtain⟨i,hi',rfl⟩:=List.mem_map.1 hx';exact(hg i (List.mem_range.1 hi')).2
  ·rw[flat_length hf];simp
  ·intro hn;have h0:=(hg 0 hn).1;obtain⟨_,hs,h8⟩:=World.cells?_some h0;have h4:a.spot=none:=by
    have h2:=h8 0 hm;have ha:∃ v,(f (g 0))[0]?=some v:=⟨(f (g 0))[0]'(by rw[hf];exact hm),List.getElem?_eq_getElem _⟩;obtain⟨v,hv⟩:=ha;rw[hv]at h2;simpa[Addr.add]using World.cell?_spot h2
   obtain⟨b,off,spot⟩:=a;simp only at h4;subst h4;have place:∀ q:Nat,(⟨b,off,none⟩:Addr).add q=⟨b,off+q,none⟩:=by
    intro q;unfold Addr.add;split
    ·rename_i h0;rw[h0];rfl
    ·rfl
   have h3:∀ j u,(((List.range len).map g).flatMap f)[j]?=some u->w.cell? ⟨b,off+j,none⟩=some u:=by
    intro q u hu;obtain⟨i,j,x,rfl,hj,h6,hd⟩:=li hf _ _ _ hu;have h7:i<len:=by simpa using(List.getElem?_eq_some_iff.1 h6).1
    have hr:x=g i:=by
     rw[List.getElem?_map,List.getElem?_range h7]at h6;exact(Option.some.inj h6).symm
    subst hr;have:=(World.cells?_some (hg i h7).1).2.2 j hj;rw[place,show(⟨b,off+i*m,none⟩:Addr).add j=⟨b,off+i*m+j,none⟩from by unfold Addr.add;split<;>simp_all]at this;rw[<-Nat.add_assoc,this];exact hd
   refine⟨b,off,rfl,?_,h3⟩;have hq:∃ v,(((List.range len).map g).flatMap f)[0]?=some v:=by
    have he:0<(((List.range len).map g).flatMap f).length:=by rw[flat_length hf,List.length_map,List.length_range];exact Nat.mul_pos hn hm
    exact⟨_,List.getElem?_eq_getElem he⟩
   obtain⟨v,hv⟩:=hq;exact World.block_lt_of_cell? w ⟨b,off+0,none⟩ (h3 0 v hv)
theorem zt(k:IntKind)(l:List Int):l.flatMap (fun z=>[Value.int k z])=l.map (Value.int k):=by
 induction l with
 |nil=>rfl
 |cons a l ih=>simp[List.flatMap_cons,ih]
theorem Wo{α:Type}[Inhabited α]{f:α->List Value}{m:Nat}(hf:∀ x,(f x).length=m)(hm:0<m){ok:α->Prop}{r:Reach}{b0:Nat}{t e:TypeId}{v:Value}{d:DataW H}{ps:List MemPlace}
  (ht:P.underlying t=some (.slice e))(hc:P.cellsOf e=m)
  (helem:∀(n:Nat)(cs':List Value)(y:DataW H×List MemPlace),DataW.trod enc P w base spare held n e cs'=some y->∃ x:α,cs'=f x/\ok x)
  (hv:Value.okWide P w r b0 t v)(hd:DataW.Trod enc P w base spare held t v d ps):
  ∃(A:Option Addr)(n c:Nat)(l:List α),v=.slice A n c/\l.length=n/\n<=c/\c<=maxLen/\(∀x∈l,ok x)/\Rd w w.heap.size m A n (l.flatMap f):=by
 obtain⟨a,len,cap,rfl⟩:=okWide_slice ht hv;obtain⟨fuel,h⟩:=hd;obtain⟨A,n,c,l,h0,rest⟩:=ZQ hf hm ht hc helem h;simp[Value.cells]at h0;obtain⟨rfl,rfl,rfl⟩:=h0;exact⟨_,_,_,l,rfl,rest⟩
theorem Wp{r:Reach}{b0:Nat}{t e:TypeId}{k:IntKind}{v:Value}{d:DataW H}{ps:List MemPlace}
  (ht:P.underlying t=some (.slice e))(he:P.underlying e=some (.int k))(hc:P.cellsOf e=1)
  (hv:Value.okWide P w r b0 t v)(hd:DataW.Trod enc P w base spare held t v d ps):
  ∃(A:Option Addr)(n c:Nat)(l:List Int),v=.slice A n c/\l.length=n/\n<=c/\c<=maxLen/\(∀z∈l,(Lit.int k z).wf=true)/\Rd w w.heap.size 1 A n (l.map (Value.int k)):=by
 obtain⟨A,n,c,l,h⟩:=Wo (f:=fun z=>[Value.int k z]) (m:=1) (fun _=>rfl) (by omega) (ok:=fun z=>(Lit.int k z).wf=true) ht hc
  (fun n cs' y hy=>by obtain⟨z,h1,_,h2⟩:=DataW.trod_int he hy;exact⟨z,h1,h2⟩) hv hd
 rw[zt]at h;exact⟨A,n,c,l,h⟩
theorem QQ{t:TypeId}{fs:Array Field}{k:IntKind}{n:Nat}{cs:List Value}{y:DataW H×List MemPlace}(ht:P.underlying t=some (.struct fs))(hone:Go.Deep.oneCellFields P fs=true)(hC:P.cellsOf t=fs.size)
  (hk:fs.all (fun f=>match P.underlying f.type with|some (.int k')=>k'==k|_=>false)=true)(h:DataW.trod enc P w base spare held n t cs=some y):
  ∃zs:List Int,cs=zs.map (Value.int k)/\zs.length=fs.size/\∀ z∈zs,(Lit.int k z).wf=true:=by
 obtain⟨xs,n',_,_,h6,hc,hf⟩:=DataW.trod_struct ht h;have h8:cs.length=fs.size:=h6.trans hC;have key:∀ i,i<fs.size->∃ z:Int,cs[i]?=some (.int k z)/\(Lit.int k z).wf=true:=by
  intro i hi;have h7:fs[i]?=some fs[i]:=Array.getElem?_eq_getElem hi;obtain⟨ho,h9⟩:=Go.Deep.hone_of hone i _ h7;have h1:=hf i _ h7;rw[ho,h9]at h1;have h0:(cs.drop i).take 1=[cs[i]'(by omega)]:=by
   rw[List.drop_eq_getElem_cons (by omega)];rfl
  rw[h0,List.getElem?_eq_getElem (by omega)]at h1;have ha:P.underlying fs[i].type=some (.int k):=by
   have h4:=(Array.all_eq_true.1 hk) i hi;split at h4
   ·rename_i k' h5;rw[h5,beq_iff_eq.1 h4]
   ·cases h4
  obtain⟨z,h2,_,h3⟩:=DataW.trod_int ha h1;refine⟨z,?_,h3⟩;rw[List.getElem?_eq_getElem (by omega)];simpa using h2
 obtain⟨g,hg⟩:=Go.Deep.choose_lt key;refine⟨(List.range fs.size).map g,?_,by simp,?_⟩
 ·apply List.ext_getElem?;intro i;by_cases hi:i<fs.size
  ·rw[(hg i hi).1];simp[hi]
  ·rw[List.getElem?_eq_none (by omega)];simp[hi]
 ·intro z hz;obtain⟨i,hi,rfl⟩:=List.mem_map.1 hz;exact(hg i (List.mem_range.1 hi)).2
theorem Vx{r:Reach}{b0:Nat}{t:TypeId}{fs:Array Field}{v:Value}{d:DataW H}{ps:List MemPlace}(ht:P.underlying t=some (.struct fs))(hone:Go.Deep.oneCellFields P fs=true)(hC:P.cellsOf t=fs.size)
  (hv:Value.okWide P w r b0 t v)(hd:DataW.Trod enc P w base spare held t v d ps):
  ∃(us:List Value)(m:Nat),v=.agg us.toArray/\us.length=fs.size/\∀(i:Nat)(f:Field)(u:Value),fs[i]?=some f->us[i]?=some u->∃ y,DataW.trod enc P w base spare held m f.type [u]=some y:=by
 obtain⟨cs,rfl,h5⟩:=okWide_struct ht hv;obtain⟨fuel,hf⟩:=hd;obtain⟨xs,n,_,_,h4,h7,hg⟩:=DataW.trod_struct ht hf;have h2:cs.toList.length=fs.size:=by simpa using h5.trans hC
 refine⟨cs.toList,n,by simp,h2,fun i f u hi hu=>?_⟩;have h6:i<fs.size:=(Array.getElem?_eq_some_iff.1 hi).1;obtain⟨ho,h3⟩:=Go.Deep.hone_of hone i f hi;have h1:=hg i f hi;rw[ho,h3]at h1;have h0:((Value.agg cs).cells.toList.drop i).take 1=[u]:=by
  show(cs.toList.drop i).take 1=[u]
  rw[List.drop_eq_getElem_cons (by omega)];rw[List.getElem?_eq_getElem (by omega)]at hu;simp only[Option.some.injEq]at hu;rw[hu];rfl
 rw[h0,List.getElem?_eq_getElem (by omega)]at h1;exact⟨_,h1⟩
end
end HB
end
section
open Go Go.RowKit
theorem fh{D:Nat}{w:World}:Below D w w:=Below.refl _ _
theorem fi{n:Nat}:n<=n:=Nat.le_refl n
abbrev fj(w:World):World->Prop:=Below w.heap.size w
abbrev fk(v:Value)(w:World)(e:Ending)(w1:World):Prop:=e=.returned v/\Below w.heap.size w w1
abbrev fm(v:Value)(w:World)(e:Ending)(w1:World):Prop:=e=.returned v/\w1=w
end
section
set_option linter.defProp false
open Go Go.RowKit
def jx:= @List.mem_of_getElem?
def qd:= @List.getElem?_eq_some_iff
def qx:= @List.mem_cons
def kC:= @List.length_append
def kD:= @List.getElem?_eq_getElem
def kK:= @Nat.lt_of_lt_of_le
def ve:= @Option.some.inj
def vf:= @Nat.zero_le
def vg:= @Go.World.cell?_of_block
def vt:= @List.getElem?_set
def vD:= @Nat.le_trans
def vN:= @List.mem_singleton
def xB:= @Int.mul_le_mul_of_nonneg_right
def xz:= @List.mem_cons_self
def xC:= @Go.World.frozen?_of_block
def yd:= @Bool.eq_false_or_eq_true
def ye:= @List.length_set
def yj:= @List.eq_nil_of_length_eq_zero
def ym:= @Go.AllReadyH.nil
def yp:= @List.mem_append
def yD:= @Go.World.frozen?_setCell
def yO:= @Int.mul_le_mul
def yP:= @List.mem_cons_of_mem
def Z5:= @List.getElem?_of_mem
def Zl:= @List.not_mem_nil
def Zm:= @Go.World.cell?_setCell_other
def Zn:= @List.length_cons
def ZW:= @Nat.eq_zero_or_pos
def JE:= @Int.mul_nonneg
def Jp:= @List.length_singleton
def JF:= @List.map_cons
def JG:= @Go.World.block_lt_of_cell?
def JH:= @Go.IntKind.wrap_i64
def QK:= @List.pairwise_cons
def QL:= @List.getElem?_map
def QM:= @Int.eq_ofNat_of_zero_le
def QN:= @List.flatMap_cons
def QO:= @Go.RowKit.Below.heap_setCell
def QR:= @List.getD_eq_getElem?_getD
def KN:= @List.length_nil
def KO:= @Go.World.cell?_setCell_same
def KS:= @List.length_map
def Vm:= @List.map_nil
def Vl:= @List.mem_map
def Vn:= @List.take_add_one
def Vo:= @Int.add_mul
def Vp:= @Array.getElem?_eq_some_iff
def Vr:= @List.length_replicate
def Vq:= @Nat.le_of_lt
def Vs:= @List.flatMap_append
def Vt:= @Nat.add_zero
def Vu:= @Int.le_refl
def XS:= @Nat.add_assoc
def XT:= @List.length_take
def XU:= @Int.mul_le_mul_of_nonneg_left
def XV:= @List.getElem?_append_left
def XW:= @List.map_append
def XX:= @Int.toNat_natCast
def XY:= @List.getElem?_append_right
def XZ:= @List.pairwise_append
def YE:= @List.filterMap_append
def Y0:= @List.getElem?_eq_none
def YF:= @Nat.lt_or_ge
def Ut:= @Nat.le_succ
def YK:= @Prod.mk.inj
def W9:= @List.map_toArray
def UZ:= @List.take_length
def Wb:= @Int.lt_of_mul_lt_mul_right
def Wa:= @Nat.zero_add
def Wc:= @List.take_of_length_le
def Wf:= @List.size_toArray
def We:= @Go.Value.slice.injEq
def Wh:= @Array.length_toList
def Wi:= @Int.ediv_nonneg
def Wj:= @Bool.and_eq_true
def Wk:= @Classical.em
def Gu:= @List.eq_of_mem_replicate
def Gv:= @Option.some.injEq
def Hx:= @List.append_nil
def Hy:= @Int.one_mul
def ae:= @Go.IntWalk.i64_in
def ag:= @List.length_filter_le
def aa:= @List.take_append_drop
def ah:= @BitVec.ofInt_natCast
def bU:= @List.append_assoc
def bT:= @List.ext_getElem?
def du:= @Int.emod_lt_of_pos
def cX:= @Int.mul_comm
def bV:= @List.filter_append
def cW:= @List.set_set
def cU:= @Nat.lt_trans
def dT:= @Int.tdiv_eq_ediv_of_nonneg
def dU:= @List.Pairwise.nil
def dV:= @List.drop_eq_getElem_cons
def eJ:= @List.mem_or_eq_of_mem_set
def iw:= @Nat.mul_one
def ix:= @Int.lt_or_le
def iy:= @Nat.mod_eq_of_lt
def iz:= @List.getElem?_replicate
def iB:= @Int.emod_nonneg
def iC:= @List.getElem?_take
def iA:= @List.nil_append
def iD:= @Int.mul_add
def iE:= @Go.Result.andThen_ok
def iF:= @List.mem_iff_getElem?
def iG:= @And.intro
def iJ:= @Array.getElem_modify
def iI:= @Int.ediv_le_self
def iH:= @List.getElem_mem
def iN:= @Go.Calls.quiet_of_same
def iM:= @Int.toNat_of_nonneg
def iL:= @List.map_congr_left
def iK:= @Nat.mul_le_mul_left
def iO:= @List.mem_filter
def iU:= @Array.getElem_push
def iT:= @BitVec.toNat_ofInt
def iS:= @BitVec.toNat_ofNat
def iQ:= @Int.le_trans
def iP:= @List.map_map
def iR:= @Go.World.ownsRow.kept
def iV:= @List.Perm.refl
def iW:= @List.mem_flatMap
end
section
open Go Go.RowKit
abbrev iX:=Option Addr
abbrev iY:=ByteArray
abbrev iZ:=List Value
abbrev l6:=World
abbrev l8:=List Int
end
section
namespace HB
open Go.RowKit
def Own{α:Type}(w:l6)(base:Nat)(e:TypeId)(sz:Nat)(f:α->iZ)(v:Value)(l:List α):Prop:=w.ownsRow base e sz v l.length (l.flatMap f)
section
variable{α:Type}{w w':l6}{base:Nat}{e:TypeId}{sz:Nat}{f:α->iZ}{v:Value}{l:List α}
theorem Own.nil(w:l6)(base:Nat)(e:TypeId)(sz:Nat)(f:α->iZ):Own w base e sz f (.slice none 0 0) []:=World.ownsRow_nil w base e sz
theorem Own.row(h:Own w base e sz f v l):w.ownsRow base e sz v l.length (l.flatMap f):=h
theorem Own.drew(h:Own w base e sz f v l):Own w.drew base e sz f v l:=h
theorem Own.drewN(h:Own w base e sz f v l)(k:Nat):Own (w.drewN k) base e sz f v l:=h
theorem Own.alloc(h:Own w base e sz f v l)(o:Obj):Own (w.alloc o) base e sz f v l:=World.ownsRow.alloc h o
theorem Own.below(h:Own w base e sz f v l)(hb:fj w w'):Own w' base e sz f v l:=
 iR (row:=none) h ⟨hb.os,hb.tape,hb.output,hb.size,fun k hk _=>hb.block k hk⟩ (by cases hv:v.ownBlock<;>simp)
theorem Own.shape(h:Own w base e sz f v l):∃(A:iX)(c:Nat),v=.slice A l.length c/\l.length<=c/\Rd w w.heap.size sz A l.length (l.flatMap f):=by
 rcases h.2 with⟨hv,h0⟩|⟨g,cap,cur,hv,hb,hg,h1,h2,h3,ht⟩
 ·refine⟨none,0,by rw[hv,h0],by omega,h.1,fun hn=>by omega⟩
 ·refine⟨some ⟨g,0,none⟩,cap,hv,h1,?_⟩;subst hv;exact Rd.own h.row
theorem Own.small{B:Nat}(h:Own w base e sz f v l)(hB:B<=base):Own w B e sz f v l:=by
 rcases h with⟨h1,h2⟩;refine⟨h1,?_⟩;rcases h2 with h2|⟨g,cap,cur,hv,hb,rest⟩
 ·exact .inl h2
 ·exact .inr ⟨g,cap,cur,hv,vD hB hb,rest⟩
theorem Own.setBelow(h:Own w base e sz f v l){p:Addr}(hp:p.block<base)(u:Value):Own (w.setCell p u) base e sz f v l:=ownsRow_setCell_below h hp u
theorem Own.at_(h:Own w base e sz f v l)(hn:0<l.length):∃ g cap,v=.slice (some ⟨g,0,none⟩) l.length cap/\base<=g/\g<w.heap.size/\l.length<=cap/\
  (∀j u,(l.flatMap f)[j]?=some u->w.cell? ⟨g,j,none⟩=some u)/\(∀j,w.frozen? ⟨g,j,none⟩=false):=by
 rcases h.2 with⟨hv,h0⟩|⟨g,cap,cur,hv,hb,hg,h1,h2,h3,ht⟩
 ·omega
 ·subst hv;refine⟨g,cap,rfl,hb,(Vp.1 hg).1,h1,fun j u hu=>?_,fun j=>World.ownsRow.frozenAt h.row j⟩;have hj:j<l.length*sz:=by have:=(qd.1 hu).1;rw[h.1]at this;exact this
  rw[World.ownsRow.cellAt h.row j hj];exact hu
end
section
variable{P:Program}{α:Type}{w:l6}{base:Nat}{e:TypeId}{sz:Nat}{f:α->iZ}{v:Value}{l:List α}
theorem push{ops:Array Oper}{rest:List Oper}{o:Oper}{a:Act}{Q:Exit->Act->l6->Prop}(hgd:o.guard=none)(s x:Operand)(t:TypeId)
  (ho:o.op=.call {callee:=.builtin .append,args:= #[s,x],argTypes:= #[t,t]})
  {z:Value}{bytes:Nat}(ht:P.underlying t=some (.slice e))(hinfo:(P.info? e).map (fun i=>(i.zero,i.size,i.bytes))=some (some z,sz,bytes))(hzs:z.cells.size=sz)(hsz:0<sz)(hby:bytes<=1000)
  (hs:a.eval s=v)(hown:Own w base e sz f v l)(y:α)(ad:Addr)(c:Nat)(hx:a.eval x=.slice (some ad) 1 c)(hl:(f y).length=sz)
  (hc:∀ j u,(f y)[j]?=some u->w.cell? (ad.add j)=some u)(h1:∀ u∈f y,u.oneCell'=true)
  (hn:l.length<=1000000000)(hbase:base<=w.heap.size)
  (h:∀ v' w',Own w' base e sz f v' (l++[y])->Below base w w'->wpList P ops Q rest (a.put o.dst v') w'):wpList P ops Q (o::rest) a w:=by
 obtain⟨i,hi,hz,h2,h0⟩:=info_parts hinfo;refine wpList_append_own w hgd s x t ho base e i z sz bytes ht hi hz h2 h0 hzs hsz v l.length (l.flatMap f) hs hown.row ad 1 c (f y) hx (by rw[hl,Nat.one_mul]) hc h1 (by simp only[maxLen];omega)
  (vD (iK _ hby) (by omega)) hbase (fun v' w' k1 k2 _=>h v' w' ?_ ((Below.refl base w).grown k2 hbase (fun k hk=>(hown.row.lt k hk).1)))
 show w'.ownsRow base e sz v' (l++[y]).length ((l++[y]).flatMap f)
 simpa using k1
theorem qe{ops:Array Oper}{rest:List Oper}{o:Oper}{a:Act}{Q:Exit->Act->l6->Prop}(hgd:o.guard=none)(s x:Operand)(t:TypeId)
  (ho:o.op=.call {callee:=.builtin .append,args:= #[s,x],argTypes:= #[t,t]})
  {z:Value}{bytes:Nat}(ht:P.underlying t=some (.slice e))(hinfo:(P.info? e).map (fun i=>(i.zero,i.size,i.bytes))=some (some z,sz,bytes))(hzs:z.cells.size=sz)(hsz:0<sz)(hby:bytes<=1000)
  (hs:a.eval s=v)(hown:Own w base e sz f v l)(ys:List α)(B:Nat)(A:iX)(m c:Nat)(hx:a.eval x=.slice A m c)(hm:ys.length=m)
  (hr:Rd w B sz A m (ys.flatMap f))(h1:∀ u∈ys.flatMap f,u.oneCell'=true)
  (hn:l.length<=1000000000)(hm1:m<=1000000000)(hbase:base<=w.heap.size)
  (h:∀ v' w',Own w' base e sz f v' (l++ys)->Below base w w'->wpList P ops Q rest (a.put o.dst v') w'):wpList P ops Q (o::rest) a w:=by
 obtain⟨i,hi,hz,h7,h4⟩:=info_parts hinfo;subst hm;rcases A with _|ad
 ·have h5:ys=[]:=by
   rcases ZW ys.length with h0|h0
   ·exact yj h0
   ·obtain⟨b,off,hA,_⟩:=hr.2 h0;cases hA
  subst h5;refine wpList_plain hgd fun K hK=>?_
  unfold Oper.wp execOp;simp only[ho,resolve,invoke,builtin,Sem.run_bind,Sem.run_pure,iE,W9,JF,Vm,hs,hx];have h3:(Builtin.append_ #[t,t] o.type #[v,.slice none 0 c]).run P w=.ok v w:=by
   rcases hown.2 with⟨hv,h0⟩|⟨g,cap,cur,hv,_,_,h6,_⟩
   ·rw[hv];simp[Builtin.append_,run_underlying ht,sizeOf,typeInfo,hi,Builtin.lenOf,Builtin.firstCells]
   ·rw[hv];simp[Builtin.append_,run_underlying ht,sizeOf,typeInfo,hi,Builtin.lenOf,Builtin.firstCells,h6,storeCells]
  simp only[KN,h3];exact hK _ _ (h v w (by simpa using hown) fh)
 ·have h2:∀ j u,(ys.flatMap f)[j]?=some u->w.cell? (ad.add j)=some u:=by
   intro j u hu;rcases ZW ys.length with h0|h0
   ·have:ys=[]:=yj h0;subst this;simp at hu
   ·obtain⟨b,off,hA,_,hc⟩:=hr.2 h0;injection hA with hA;subst hA;have:=hc j u hu;unfold Addr.add;split
    ·rename_i hj;subst hj;exact this
    ·exact this
  refine wpList_append_own w hgd s x t ho base e i z sz bytes ht hi hz h7 h4 hzs hsz v l.length (l.flatMap f) hs hown.row ad ys.length c (ys.flatMap f) hx hr.1 h2 h1 (by simp only[maxLen];omega)
   (vD (iK _ hby) (by omega)) hbase (fun v' w' k1 k2 _=>h v' w' ?_ ((Below.refl base w).grown k2 hbase (fun k hk=>(hown.row.lt k hk).1)))
  show w'.ownsRow base e sz v' (l++ys).length ((l++ys).flatMap f)
  simpa using k1
end
theorem Own.block{α:Type}{f:α->iZ}{base sz:Nat}(w:l6)(e:TypeId)(cs:Array Value)(l:List α)(hb:base<=w.heap.size)(hl:cs.toList=l.flatMap f)(hf:∀ x,(f x).length=sz)(hn:l.length<=1000000000):
  Own (w.alloc (.cells cs e)) base e sz f (.slice (some ⟨w.heap.size,0,none⟩) l.length l.length) l:=by
 have hs:cs.size=l.length*sz:=by rw[<-Wh,hl,flat_length hf]
 refine⟨by rw[flat_length hf],.inr ⟨w.heap.size,l.length,cs,rfl,hb,heap_alloc_new w _,fi,by simp only[maxLen];omega,hs,?_⟩⟩;rw[<-hs,<-hl,<-Wh,UZ]
theorem Own.made{base:Nat}{k:IntKind}(w:l6)(e:TypeId)(n:Nat)(hb:base<=w.heap.size)(hn:n<=1000000000):
  Own (w.alloc (.cells (madeCells #[.int k 0] n) e)) base e 1 (fun z=>[Value.int k z]) (.slice (some ⟨w.heap.size,0,none⟩) n n) (List.replicate n 0):=by
 have h:=Own.block (base:=base) (f:=fun z=>[Value.int k z]) (sz:=1) w e (madeCells #[.int k 0] n) (List.replicate n 0) hb (by
  rw[zt];apply bT;intro i;by_cases hi:i<n
  ·simp[madeCells,hi,Nat.mod_one]
  ·simp[madeCells,hi]) (fun _=>rfl) (by simpa using hn)
 simpa using h
theorem Own.store{base:Nat}{k:IntKind}{w:l6}{e:TypeId}{g n c:Nat}{l:l8}(h:Own w base e 1 (fun z=>[Value.int k z]) (.slice (some ⟨g,0,none⟩) n c) l)(hl:l.length=n)(j:Nat)(y:Int):
  Own (w.setCell ⟨g,j,none⟩ (.int k y)) base e 1 (fun z=>[Value.int k z]) (.slice (some ⟨g,0,none⟩) n c) (l.set j y)/\Below base w (w.setCell ⟨g,j,none⟩ (.int k y)):=by
 subst hl;have h1:=World.ownsRow.stored h.row j (.int k y);refine⟨?_,fh.setCell (h.row.lt g rfl).1 _⟩
 show World.ownsRow _ base e 1 _ (l.set j y).length ((l.set j y).flatMap fun z=>[Value.int k z])
 rw[zt,List.map_set,ye,<-zt];exact h1.1
theorem Own.int_at{base:Nat}{k:IntKind}{w:l6}{e:TypeId}{g n c:Nat}{l:l8}(h:Own w base e 1 (fun z=>[Value.int k z]) (.slice (some ⟨g,0,none⟩) n c) l)(hl:l.length=n){j:Nat}(hj:j<n):
  ∃x,l[j]?=some x/\w.cell? ⟨g,j,none⟩=some (.int k x)/\w.frozen? ⟨g,j,none⟩=false:=by
 subst hl;have hg:l[j]?=some (l[j]):=kD hj;refine⟨_,hg,?_,World.ownsRow.frozenAt h.row j⟩;rw[World.ownsRow.cellAt h.row j (by omega),zt,QL,hg];rfl
abbrev fa(k:IntKind):Int->iZ:=fun z=>[Value.int k z]
theorem Own.ints{w:l6}{base:Nat}{e:TypeId}{k:IntKind}{v:Value}{l:l8}(h:Own w base e 1 (fa k) v l):
  ∃(A:iX)(c:Nat),v=.slice A l.length c/\l.length<=c/\Rd w w.heap.size 1 A l.length (l.map (Value.int k)):=by
 obtain⟨A,c,h1,h2,h3⟩:=h.shape;rw[zt]at h3;exact⟨A,c,h1,h2,h3⟩
end HB
end
section
theorem Tryz.own:ownKnob prog.godebug=none:=by kernel_rfl
theorem Tryz.laidOut:laidOutB prog=true:=by kernel_rfl
end
section
namespace HeapP
structure En where
 t:Int
 k:Int
 i:Int
deriving DecidableEq,Inhabited
def lt(a b:En):Bool:=if a.t≠b.t then decide (a.t<b.t)else if a.k≠b.k then decide (a.k<b.k)else decide (a.i<b.i)
theorem Ws(a b:En):lt a b=true↔a.t<b.t\/(a.t=b.t/\(a.k<b.k\/(a.k=b.k/\a.i<b.i))):=by
 unfold lt;split
 ·simp;omega
 ·split
  ·simp;omega
  ·simp;omega
theorem ue(a b:En):lt a b=false↔¬ (a.t<b.t\/(a.t=b.t/\(a.k<b.k\/(a.k=b.k/\a.i<b.i)))):=by
 rw[<-Ws];simp
theorem lt_irrefl(a:En):lt a a=false:=by rw[ue];omega
abbrev le(a b:En):Prop:=lt b a=false
theorem le_refl(a:En):le a a:=lt_irrefl a
theorem le_trans{a b c:En}(h1:le a b)(h2:le b c):le a c:=by
 rw[le,ue]at*;omega
theorem le_of_lt{a b:En}(h:lt a b=true):le a b:=by
 rw[Ws]at h;rw[le,ue];omega
theorem Wu(a b:En):le a b\/le b a:=by
 cases h:lt b a with
 |false=>exact .inl h
 |true=>exact .inr (le_of_lt h)
theorem le_antisymm{a b:En}(h1:le a b)(h2:le b a):a=b:=by
 rw[le,ue]at*;cases a;cases b;simp at*;omega
abbrev Zo(l:List En):Prop:=l.Pairwise le
theorem an{l:List En}{e:En}{k:Nat}(hs:Zo l)(h1:∀ x∈l.drop k,le e x)(h2:∀ x∈l.take k,le x e):Zo (l.take k++e::l.drop k):=by
 rw[Zo,XZ,QK];refine⟨hs.sublist (List.take_sublist _ _),⟨h1,hs.sublist (List.drop_sublist _ _)⟩,?_⟩;intro a ha b hb;rcases qx.1 hb with rfl|hb
 ·exact h2 a ha
 ·exact le_trans (h2 a ha) (h1 b hb)
theorem Wv{l:List En}{k:Nat}{e y:En}(hs:Zo l)(hk:0<k)(hy:l[k-1]?=some y)(h:le y e):∀ x∈l.take k,le x e:=by
 intro x hx;obtain⟨j,hj⟩:=iF.1 hx;rw[iC]at hj;split at hj
 ·rename_i h2;by_cases he:j=k-1
  ·subst he;rw[hy]at hj;injection hj with hj;subst hj;exact h
  ·obtain⟨h0,e1⟩:=qd.1 hj;obtain⟨h1,e2⟩:=qd.1 hy;have:=(List.pairwise_iff_getElem.1 hs) j (k-1) h0 h1 (by omega);rw[e1,e2]at this;exact le_trans this h
 ·simp at hj
def sw(L:List En)(i j:Nat)(x y:En):List En:=(L.set i y).set j x
theorem ZR(L:List En)(i j:Nat)(x y:En):(sw L i j x y).length=L.length:=by simp[sw]
theorem JJ{L:List En}{i j:Nat}{x y:En}(hx:L[i]?=some x)(hy:L[j]?=some y)(m:Nat):(sw L i j x y)[m]?=if m=j then some x else if m=i then some y else L[m]?:=by
 have h1:=(qd.1 hx).1;have h2:=(qd.1 hy).1;unfold sw;rw[vt,vt];by_cases a:j=m
 ·subst a;simp[h2]
 ·have a':¬ m=j:=fun h=>a h.symm
  by_cases b:i=m
  ·subst b;simp[a,a',h1]
  ·have b':¬ m=i:=fun h=>b h.symm
   simp[a,a',b,b']
theorem Y3{L:List En}{i j:Nat}{x y:En}(hx:L[i]?=some x)(hy:L[j]?=some y)(hij:i≠j):(sw L i j x y).Perm L:=by
 obtain⟨h1,e1⟩:=qd.1 hx;obtain⟨h2,e2⟩:=qd.1 hy;rw[List.perm_iff_count];intro a;unfold sw;rw[List.count_set (by simpa using h2),List.count_set h1];have h3:(L.set i y)[j]'(by simpa using h2)=y:=by rw[List.getElem_set_ne hij];exact e2
 rw[h3,e1];have p1:(if(x==a)=true then 1 else 0)<=L.count a:=by
  split
  ·rename_i h;have h:x=a:=by simpa using h
   subst h;exact List.count_pos_iff.2 (e1▸iH _)
  ·exact vf _
 have p2:(if(y==a)=true then 1 else 0)<=L.count a-(if(x==a)=true then 1 else 0)+(if(y==a)=true then 1 else 0):=by omega
 omega
def ok(L:List En)(j:Nat):Prop:=∀ x y,L[j]?=some x->L[(j-1)/2]?=some y->le y x
def Ww(L:List En)(s:Nat):Prop:=∀ j,0<j->s<=(j-1)/2->ok L j
def jt(L:List En):Prop:=Ww L 0
theorem Vy{L:List En}(h:jt L){r:En}(hr:L[0]?=some r):∀(j:Nat)(x:En),L[j]?=some x->le r x:=by
 intro j
 induction j using Nat.strongRecOn with
 |_ j ih=>
  intro x hx;by_cases h0:j=0
  ·subst h0;rw[hr]at hx;injection hx with hx;subst hx;exact le_refl _
  ·have h1:(j-1)/2<L.length:=by have:=(qd.1 hx).1;omega
   have hy:L[(j-1)/2]?=some L[(j-1)/2]:=kD h1;exact le_trans (ih _ (by omega) _ hy) (h j (by omega) (vf _) x _ hx hy)
theorem vO{L:List En}(h:jt L){r:En}(hr:L[0]?=some r):∀ x∈L,le r x:=fun x hx=>by
 obtain⟨j,hj⟩:=iF.1 hx;exact Vy h hr j x hj
def Up(L:List En)(i:Nat):Prop:=(∀j,0<j->j≠i->ok L j)/\(∀c x z,0<i->0<c->(c-1)/2=i->L[c]?=some x->L[(i-1)/2]?=some z->le z x)
theorem Wy{L:List En}(h:jt L)(e:En):Up (L++[e]) L.length:=by
 constructor
 ·intro j hj h0 x y hx hy;have hl:=(qd.1 hx).1;rw[kC,Jp]at hl;rw[XV (by omega)]at hx;rw[XV (by omega)]at hy;exact h j hj (vf _) x y hx hy
 ·intro c x z _ _ hc hx _;have hl:=(qd.1 hx).1;rw[kC,Jp]at hl;omega
theorem Wz{L:List En}{i:Nat}(h:Up L i)(h2:i=0\/(∀x y,L[i]?=some x->L[(i-1)/2]?=some y->le y x)):jt L:=by
 intro j hj _;by_cases he:j=i
 ·subst he;rcases h2 with h2|h2
  ·omega
  ·exact h2
 ·exact h.1 j hj he
theorem ap{L:List En}{i p:Nat}{x y:En}(h:Up L i)(hi:0<i)(hp:p=(i-1)/2)(hx:L[i]?=some x)(hy:L[p]?=some y)(hlt:lt x y=true):Up (sw L i p x y) p:=by
 have h7:i≠p:=by omega
 constructor
 ·intro j hj h5 a b ha hb;rw[JJ hx hy]at ha hb;rw[if_neg h5]at ha;by_cases h3:j=i
  ·subst h3;rw[if_pos rfl]at ha;rw[if_pos hp.symm]at hb;injection ha with ha;injection hb with hb;subst ha;subst hb;exact le_of_lt hlt
  ·rw[if_neg h3]at ha;by_cases h1:(j-1)/2=p
   ·rw[if_pos h1]at hb;injection hb with hb;subst hb;exact le_trans (le_of_lt hlt) (h.1 j hj h3 a y ha (by rw[h1];exact hy))
   ·rw[if_neg h1]at hb;by_cases h2:(j-1)/2=i
    ·rw[if_pos h2]at hb;injection hb with hb;subst hb;exact h.2 j a y hi hj h2 ha (by rw[<-hp];exact hy)
    ·rw[if_neg h2]at hb;exact h.1 j hj h3 a b ha hb
 ·intro c a z h6 hc h4 ha hz;rw[JJ hx hy]at ha hz;have e1:¬ (p-1)/2=p:=by omega
  have e2:¬ (p-1)/2=i:=by omega
  rw[if_neg e1,if_neg e2]at hz;have h0:le z y:=h.1 p h6 (by omega) y z hy hz;by_cases h1:c=p
  ·omega
  ·rw[if_neg h1]at ha;by_cases h2:c=i
   ·rw[if_pos h2]at ha;injection ha with ha;subst ha;exact h0
   ·rw[if_neg h2]at ha;exact le_trans h0 (h.1 c hc h2 a y ha (by rw[h4];exact hy))
def YH(L:List En)(s i:Nat):Prop:=(∀j,0<j->s<=(j-1)/2->(j-1)/2≠i->ok L j)/\(∀c x z,0<i->s<=(i-1)/2->0<c->(c-1)/2=i->L[c]?=some x->L[(i-1)/2]?=some z->le z x)
theorem Vz{L:List En}{s:Nat}(h:Ww L (s+1)):YH L s s:=
 ⟨fun j hj h1 h2=>h j hj (by omega),fun c x z h1 h2=>by omega⟩
theorem WA{L:List En}{s i:Nat}(h:YH L s i)(h2:∀ c x y,(c=2*i+1\/c=2*i+2)->L[c]?=some x->L[i]?=some y->le y x):Ww L s:=by
 intro j hj hs;by_cases he:(j-1)/2=i
 ·intro x y hx hy;rw[he]at hy;exact h2 j x y (by omega) hx hy
 ·exact h.1 j hj hs he
theorem YI{L:List En}{s i k:Nat}{x y:En}(h:YH L s i)(hs:s<=i)(hk:k=2*i+1\/k=2*i+2)(hx:L[i]?=some x)(hy:L[k]?=some y)(hlt:le y x)(hle:∀ c z,(c=2*i+1\/c=2*i+2)->L[c]?=some z->le y z):YH (sw L i k x y) s k:=by
 have h0:(k-1)/2=i:=by omega
 constructor
 ·intro j hj h1 h2 a b ha hb;rw[JJ hx hy]at ha hb;rw[if_neg h2]at hb;by_cases h5:j=k
  ·subst h5;rw[if_pos rfl]at ha;injection ha with ha;subst ha;rw[if_pos h0]at hb;injection hb with hb;subst hb;exact hlt
  ·rw[if_neg h5]at ha;by_cases h4:j=i
   ·subst h4;rw[if_pos rfl]at ha;injection ha with ha;subst ha;rw[if_neg (by omega)]at hb;exact h.2 k y b hj h1 (by omega) h0 hy hb
   ·rw[if_neg h4]at ha;by_cases h3:(j-1)/2=i
    ·rw[if_pos h3]at hb;injection hb with hb;subst hb;exact hle j a (by omega) ha
    ·rw[if_neg h3]at hb;exact h.1 j hj h1 h3 a b ha hb
 ·intro c a z h7 h8 hc h6 ha hz;rw[JJ hx hy]at ha hz;rw[if_neg (by omega),if_pos h0]at hz;injection hz with hz;subst hz;rw[if_neg (by omega),if_neg (by omega)]at ha;exact h.1 c hc (by omega) (by omega) a y ha (by rw[h6];exact hy)
theorem YJ{L:List En}{r z:En}{n:Nat}(hn:L.length=n+1)(hr:L[0]?=some r)(hz:L[n]?=some z)(h:jt L):((L.set 0 z).take n).length=n/\Ww ((L.set 0 z).take n) 1/\L.Perm (r::(L.set 0 z).take n):=by
 refine⟨by simp[hn],?_,?_⟩
 ·intro j hj h1 x y hx hy;rw[iC]at hx hy;split at hx
  ·split at hy
   ·rw[List.getElem?_set_ne (by omega)]at hx hy;exact h j hj (vf _) x y hx hy
   ·simp at hy
  ·simp at hx
 ·match L,hn,hr,hz with
  |a::t,hn,hr,hz=>
   simp at hr;subst hr;simp only[List.set_cons_zero];rcases n with _|n
   ·have:t=[]:=by simpa using hn
    subst this;simp
   ·rw[List.take_succ_cons];refine(List.perm_cons _).2 ?_;rw[List.getElem?_cons_succ]at hz;have h0:t.length=n+1:=by simpa using hn
    have h1:t=t.take n++[z]:=by
     obtain⟨h2,e2⟩:=qd.1 hz;have h4:=dV h2;rw[e2,show t.drop (n+1)=[]from List.drop_eq_nil_of_le (by omega)]at h4;have h5:=(aa n t).symm
     rwa [h4]at h5
    have h3:=List.perm_append_comm (l₁:=t.take n) (l₂:=[z]);rw[<-h1]at h3;exact h3
end HeapP
end
section
namespace HB
open Go.RowKit
theorem ZS{α:Type}{f:α->iZ}{sz:Nat}(hf:∀ x,(f x).length=sz){x x':α}{j:Nat}{u:Value}(hx:f x'=(f x).set j u)(hj:j<sz):∀(L:List α)(z:Nat),L[z]?=some x->(L.flatMap f).set (z*sz+j) u=(L.set z x').flatMap f
 |[],z,h=>by simp at h
 |y::L,0,h=>by
  simp at h;subst h;rw[Nat.zero_mul,Wa,QN,List.set_cons_zero,QN,hx,List.set_append_left _ _ (by rw[hf];exact hj)]
 |y::L,z+1,h=>by
  rw[List.getElem?_cons_succ]at h;rw[QN,List.set_cons_succ,QN,List.set_append_right _ _ (by rw[hf,Nat.succ_mul];omega),hf,show(z+1)*sz+j-sz=z*sz+j by rw[Nat.succ_mul];omega,ZS hf hx hj L z h]
theorem Own.storeF{α:Type}{f:α->iZ}{base sz:Nat}{w:l6}{e:TypeId}{g n c:Nat}{L:List α}(hf:∀ x,(f x).length=sz)(h:Own w base e sz f (.slice (some ⟨g,0,none⟩) n c) L)(hl:L.length=n){z j:Nat}{x x':α}{u:Value}(hz:L[z]?=some x)(hx:f x'=(f x).set j u)(hj:j<sz):
  Own (w.setCell ⟨g,z*sz+j,none⟩ u) base e sz f (.slice (some ⟨g,0,none⟩) n c) (L.set z x')/\Below base w (w.setCell ⟨g,z*sz+j,none⟩ u):=by
 subst hl;have h1:=World.ownsRow.stored h.row (z*sz+j) u;refine⟨?_,fh.setCell (h.row.lt g rfl).1 _⟩
 show World.ownsRow _ base e sz _ (L.set z x').length ((L.set z x').flatMap f)
 rw[ye,<-ZS hf hx hj L z hz];exact h1.1
theorem Own.elem_cell{α:Type}{f:α->iZ}{base sz:Nat}{w:l6}{e:TypeId}{g n c:Nat}{L:List α}(hf:∀ x,(f x).length=sz)(h:Own w base e sz f (.slice (some ⟨g,0,none⟩) n c) L)(hl:L.length=n){z j:Nat}{x:α}{u:Value}(hz:L[z]?=some x)(hj:j<sz)(hu:(f x)[j]?=some u):
  w.cell? ⟨g,z*sz+j,none⟩=some u/\w.frozen? ⟨g,z*sz+j,none⟩=false:=by
 subst hl;have h1:z<L.length:=(qd.1 hz).1;have h0:z*sz+j<L.length*sz:=by
  have:(z+1)*sz<=L.length*sz:=Nat.mul_le_mul_right _ h1;rw[Nat.succ_mul]at this;omega
 refine⟨?_,World.ownsRow.frozenAt h.row _⟩;rw[World.ownsRow.cellAt h.row _ h0,flat_get hf L z j _ hz hj];exact hu
end HB
end
end Go.Proofs.YtdeogmbfgkepeaaGreatDoor
