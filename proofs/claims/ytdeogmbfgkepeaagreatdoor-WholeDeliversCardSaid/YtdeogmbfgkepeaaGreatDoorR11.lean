/- Contracts for WholeDelivers. -/
import Derived.BigRegion
import Derived.Deep.DeepCutAuto
import Derived.Test.YtdeogmbfgkepeaaGreatDoorR03
set_option linter.unusedVariables false
set_option linter.unusedSimpArgs false
set_option maxRecDepth 100000
set_option maxHeartbeats 64000000
namespace Go.Proofs.YtdeogmbfgkepeaaGreatDoor
open Go.Proofs.Tryz
section
open Go.RowKit HB HeapP
namespace HB
structure Only(p g:Nat)(w w':l6):Prop where
 os:w'.os=w.os
 tape:w'.tape=w.tape
 output:w'.output=w.output
 size:w.heap.size<=w'.heap.size
 block:∀ k,k<w.heap.size->k≠p->k≠g->w'.heap[k]?=w.heap[k]?
 rest:p<w.heap.size->∀ o,o≠2->w'.cell? ⟨p,o,none⟩=w.cell? ⟨p,o,none⟩/\w'.frozen? ⟨p,o,none⟩=w.frozen? ⟨p,o,none⟩
section
variable{p g g' B:Nat}{w w1 w':l6}
theorem jm(w:l6)(a:Addr)(u:Value)(q:Addr)(h:q.block≠a.block):(w.setCell a u).cell? q=w.cell? q:=by
 unfold World.cell?;rw[QO _ _ _ _ h]
theorem jg(w:l6)(a:Addr)(u:Value)(q:Addr)(h:q.block≠a.block):(w.setCell a u).frozen? q=w.frozen? q:=by
 unfold World.frozen?;rw[QO _ _ _ _ h]
theorem vE{p o:Nat}(h:w'.heap[p]?=w.heap[p]?):w'.cell? ⟨p,o,none⟩=w.cell? ⟨p,o,none⟩/\w'.frozen? ⟨p,o,none⟩=w.frozen? ⟨p,o,none⟩:=
 ⟨vg (a:=⟨p,o,none⟩) h,xC (a:=⟨p,o,none⟩) h⟩
theorem Only.refl(p g:Nat)(w:l6):Only p g w w:=⟨rfl,rfl,rfl,fi,fun _ _ _ _=>rfl,fun _ _ _=>⟨rfl,rfl⟩⟩
theorem Only.trans(h:Only p g w w1)(k:Only p g' w1 w')(hg:g'=g\/w.heap.size<=g'):Only p g w w':=
 ⟨k.os.trans h.os,k.tape.trans h.tape,k.output.trans h.output,vD h.size k.size,fun i hi h1 h2=>(k.block i (by have:=h.size;omega) h1 (by omega)).trans (h.block i hi h1 h2),
  fun hp o ho=>⟨((k.rest (kK hp h.size) o ho).1).trans (h.rest hp o ho).1,((k.rest (kK hp h.size) o ho).2).trans (h.rest hp o ho).2⟩⟩
theorem Only.of_below(h:fj w w'):Only p g w w':=⟨h.os,h.tape,h.output,h.size,fun k hk _ _=>h.block k hk,fun hp o _=>vE (h.block p hp)⟩
theorem Only.then_(h:Only p g w w1)(hb:fj w1 w'):Only p g w w':=h.trans (g':=g) (Only.of_below hb) (.inl rfl)
theorem Only.drew(h:Only p g w w'):Only p g w w'.drew:=h.then_ fh.drew
theorem Only.alloc(h:Only p g w w')(o:Obj):Only p g w (w'.alloc o):=h.then_ (fh.alloc fi o)
theorem Only.set(h:Only p g w w'){a:Addr}(ha:a=⟨p,2,none⟩\/(a.block=g/\g≠p))(u:Value):Only p g w (w'.setCell a u):=by
 refine⟨h.os,h.tape,h.output,by have:=h.size;simpa using this,fun k hk h1 h2=>?_,fun hp o ho=>?_⟩
 ·rw[QO _ _ _ _ (by
   rcases ha with ha|ha
   ·subst ha;exact h1
   ·omega)]
  exact h.block k hk h1 h2
 ·rw[yD];refine⟨Eq.trans ?_ (h.rest hp o ho).1,(h.rest hp o ho).2⟩;rcases ha with ha|⟨ha,hg⟩
  ·subst ha;exact Zm w' _ _ _ (by intro e;injection e with _ e _;exact ho e.symm)
  ·exact jm _ _ _ _ (by simp only;omega)
theorem Only.setNew(h:Only p g w w'){a:Addr}(ha:w.heap.size<=a.block)(u:Value):Only p g w (w'.setCell a u):=by
 refine⟨h.os,h.tape,h.output,by have:=h.size;simpa using this,fun k hk h1 h2=>?_,fun hp o ho=>?_⟩
 ·rw[QO _ _ _ _ (by omega)];exact h.block k hk h1 h2
 ·rw[yD];exact⟨(jm _ _ _ _ (by simp only;omega)).trans (h.rest hp o ho).1,(h.rest hp o ho).2⟩
theorem Only.frozen(h:Only p g w w'){a:Addr}{u:Value}(hc:w.cell? a=some u)(hf:w.frozen? a=false)(h1:a.block≠p)(h2:a.block≠g):w'.frozen? a=false:=by
 have hk:=JG w a hc;have:=h.block a.block hk h1 h2;unfold World.frozen? at*;rw[this];exact hf
theorem Only.below(h:Only p g w w')(h1:B<=p)(h2:B<=g)(h3:B<=w.heap.size):Below B w w':=
 ⟨h.os,h.tape,h.output,h.size,fun k hk=>h.block k (by omega) (by omega) (by omega)⟩
theorem Only.cell(h:Only p g w w'){a:Addr}{u:Value}(hc:w.cell? a=some u)(h1:a.block≠p)(h2:a.block≠g):w'.cell? a=some u:=by
 have hk:=JG w a hc;have:=h.block a.block hk h1 h2;unfold World.cell? at*;rw[this];exact hc
theorem Own.other{α:Type}{f:α->iZ}{base sz:Nat}{e:TypeId}{v:Value}{l:List α}(h:Own w base e sz f v l)(hb:∀ b n c,v=.slice (some ⟨b,0,none⟩) n c->w'.heap[b]?=w.heap[b]?):Own w' base e sz f v l:=by
 refine⟨h.1,?_⟩;rcases h.2 with h2|⟨b,cap,cur,hv,h3,h4,rest⟩
 ·exact .inl h2
 ·exact .inr ⟨b,cap,cur,hv,h3,by rw[hb _ _ _ hv];exact h4,rest⟩
end
structure Trio(w:l6)(r:Nat)(x y z:Value):Prop where
 c0:w.cell? ⟨r,0,none⟩=some x
 c1:w.cell? ⟨r,1,none⟩=some y
 c2:w.cell? ⟨r,2,none⟩=some z
 f0:w.frozen? ⟨r,0,none⟩=false
 f1:w.frozen? ⟨r,1,none⟩=false
 f2:w.frozen? ⟨r,2,none⟩=false
 lt:r<w.heap.size
section
variable{p g r:Nat}{w w':l6}{x y z:Value}
theorem Trio.new(w:l6)(e:TypeId)(x y z:Value):Trio (w.alloc (.cells #[x,y,z] e)) w.heap.size x y z:=by
 have key:∀ j,(w.alloc (.cells #[x,y,z] e)).cell? ⟨w.heap.size,j,none⟩=[x,y,z][j]?:=fun j=>by
  rw[cell_of_row _ w.heap.size j #[x,y,z] e (0,0) (heap_alloc_new w _)];simp
 have kf:∀ j,(w.alloc (.cells #[x,y,z] e)).frozen? ⟨w.heap.size,j,none⟩=false:=fun j=>by
  unfold World.frozen?;rw[heap_alloc_new w _];simp
 exact⟨key 0,key 1,key 2,kf 0,kf 1,kf 2,by simp⟩
theorem Trio.only(h:Trio w r x y z)(ho:Only p g w w')(h1:r≠p)(h2:r≠g):Trio w' r x y z:=
 ⟨ho.cell h.c0 h1 h2,ho.cell h.c1 h1 h2,ho.cell h.c2 h1 h2,ho.frozen h.c0 h.f0 h1 h2,ho.frozen h.c1 h.f1 h1 h2,ho.frozen h.c2 h.f2 h1 h2,by have:=h.lt;have:=ho.size;omega⟩
theorem Trio.below(h:Trio w r x y z)(hb:fj w w'):Trio w' r x y z:=
 ⟨zf hb h.c0,zf hb h.c1,zf hb h.c2,(hb.frozen h.lt).trans h.f0,(hb.frozen h.lt).trans h.f1,(hb.frozen h.lt).trans h.f2,kK h.lt hb.size⟩
end
def Hp(w:l6)(p g:Nat)(L:List En):Prop:=
 ∃v,w.cell? ⟨p,2,none⟩=some v/\w.frozen? ⟨p,2,none⟩=false/\p<w.heap.size/\Own w 0 312 3 ZT v L/\((v=.slice none 0 0/\L=[]/\g=p)\/(∃c,v=.slice (some ⟨g,0,none⟩) L.length c/\L.length<=c/\g≠p/\g<w.heap.size))
section
variable{p g B:Nat}{L:List En}{w w':l6}
theorem Hp.kept(h:Hp w p g L)(hs:w.heap.size<=w'.heap.size)(hp:w'.heap[p]?=w.heap[p]?)(hg:w'.heap[g]?=w.heap[g]?):Hp w' p g L:=by
 obtain⟨v,h1,h2,h3,h4,h5⟩:=h;refine⟨v,?_,?_,by omega,h4.other fun b n c hv=>?_,?_⟩
 ·unfold World.cell? at*;rw[hp];exact h1
 ·unfold World.frozen? at*;rw[hp];exact h2
 ·rcases h5 with⟨rfl,_⟩|⟨c',rfl,_⟩
  ·simp at hv
  ·simp at hv;obtain⟨rfl,_⟩:=hv;exact hg
 ·rcases h5 with h5|⟨c,h6,h7,h8,h9⟩
  ·exact .inl h5
  ·exact .inr ⟨c,h6,h7,h8,by omega⟩
theorem Hp.gl(h:Hp w p g L):g<w.heap.size:=by
 obtain⟨v,h1,h2,h3,h4,h5⟩:=h;rcases h5 with⟨_,_,rfl⟩|⟨c,h6,h7,h8,h9⟩
 ·exact h3
 ·exact h9
theorem Hp.below(h:Hp w p g L)(hb:fj w w'):Hp w' p g L:=
 h.kept hb.size (hb.block _ (by obtain⟨_,_,_,h3,_⟩:=h;exact h3)) (hb.block _ h.gl)
theorem Hp.setOther(h:Hp w p g L){a:Addr}(h1:a.block≠p)(h2:a.block≠g)(u:Value):Hp (w.setCell a u) p g L:=
 h.kept (by simp) (QO _ _ _ _ (fun e=>h1 e.symm)) (QO _ _ _ _ (fun e=>h2 e.symm))
theorem Hp.drew(h:Hp w p g L):Hp w.drew p g L:=h.below fh.drew
theorem Hp.at_(h:Hp w p g L)(hn:0<L.length):∃ c,w.cell? ⟨p,2,none⟩=some (.slice (some ⟨g,0,none⟩) L.length c)/\L.length<=c/\g≠p/\Own w 0 312 3 ZT (.slice (some ⟨g,0,none⟩) L.length c) L:=by
 obtain⟨v,h1,h2,h3,h4,h5⟩:=h;rcases h5 with⟨_,rfl,_⟩|⟨c,rfl,h7,h8,_⟩
 ·simp at hn
 ·exact⟨c,h1,h7,h8,h4⟩
theorem Hp.sl(h:Hp w p g L):∃ A c,w.cell? ⟨p,2,none⟩=some (.slice A L.length c)/\L.length<=c:=by
 obtain⟨v,h1,h2,h3,h4,h5⟩:=h;rcases h5 with⟨rfl,rfl,_⟩|⟨c,rfl,h7,_⟩
 ·exact⟨none,0,h1,fi⟩
 ·exact⟨_,c,h1,h7⟩
theorem Hp.swap(h:Hp w p g L){i j:Nat}{x y:En}(hi:L[i]?=some x)(hj:L[j]?=some y):
  Hp ((((((w.setCell ⟨g,i*3,none⟩ (.int .i64 y.t)).setCell ⟨g,i*3+1,none⟩ (.int .i64 y.k)).setCell ⟨g,i*3+2,none⟩ (.int .i64 y.i)).setCell ⟨g,j*3,none⟩ (.int .i64 x.t)).setCell ⟨g,j*3+1,none⟩ (.int .i64 x.k)).setCell ⟨g,j*3+2,none⟩ (.int .i64 x.i)) p g (sw L i j x y):=by
 have hl:0<L.length:=by have:=(qd.1 hi).1;omega
 obtain⟨v,h1,h2,h3,h4,h5⟩:=h;rcases h5 with⟨_,rfl,_⟩|⟨c,rfl,h7,h8,h9⟩
 ·simp at hl
 ·have h6:=(qd.1 hj).1;have s1:=h4.store_ent rfl hi y;obtain⟨y',hj'⟩:∃ y',(L.set i y)[j]?=some y':=⟨_,kD (by simpa using h6)⟩;have s2:=s1.1.store_ent (by simp) hj' x;refine⟨.slice (some ⟨g,0,none⟩) L.length c,?_,?_,by simpa using h3,s2.1,.inr ⟨c,by rw[ZR],by rw[ZR];exact h7,h8,by simpa using h9⟩⟩
  ·have h0:(⟨p,2,none⟩:Addr).block≠g:=fun hh=>h8 (Eq.symm hh)
   rw[jm _ _ _ _ h0,jm _ _ _ _ h0,jm _ _ _ _ h0,jm _ _ _ _ h0,jm _ _ _ _ h0,jm _ _ _ _ h0];exact h1
  ·have h0:(⟨p,2,none⟩:Addr).block≠g:=fun hh=>h8 (Eq.symm hh)
   rw[jg _ _ _ _ h0,jg _ _ _ _ h0,jg _ _ _ _ h0,jg _ _ _ _ h0,jg _ _ _ _ h0,jg _ _ _ _ h0];exact h2
theorem Own.cut{e:TypeId}{c n:Nat}(h:Own w B e 3 ZT (.slice (some ⟨g,0,none⟩) L.length c) L)(hn:n<=L.length):Own w B e 3 ZT (.slice (some ⟨g,0,none⟩) n c) (L.take n):=by
 have h0:(L.take n).length=n:=by rw[XT];omega
 rcases h with⟨h1,h2⟩;refine⟨by rw[flat_length jD],.inr ?_⟩;rcases h2 with⟨hv,_⟩|⟨g',cap,cur,hv,h3,h4,h5,h6,h7,h8⟩
 ·simp at hv
 ·simp at hv;obtain⟨rfl,rfl⟩:=hv;refine⟨g,c,cur,by rw[h0],h3,h4,by omega,h6,h7,?_⟩;rw[h0,<-xE jD,<-h8,List.take_take,Nat.min_eq_left (Nat.mul_le_mul_right _ hn)]
theorem Hp.set0(h:Hp w p g L){x:En}(hx:L[0]?=some x)(z:En):
  Hp (((w.setCell ⟨g,0,none⟩ (.int .i64 z.t)).setCell ⟨g,1,none⟩ (.int .i64 z.k)).setCell ⟨g,2,none⟩ (.int .i64 z.i)) p g (L.set 0 z):=by
 have hl:0<L.length:=(qd.1 hx).1;obtain⟨v,h1,h2,h3,h4,h5⟩:=h;rcases h5 with⟨_,rfl,_⟩|⟨c,rfl,h7,h8,h9⟩
 ·simp at hl
 ·have s1:=(h4.store_ent rfl hx z).1;have h0:(⟨p,2,none⟩:Addr).block≠g:=fun hh=>h8 (Eq.symm hh)
  refine⟨.slice (some ⟨g,0,none⟩) L.length c,?_,?_,by simpa using h3,s1,.inr ⟨c,by simp,by simpa using h7,h8,by simpa using h9⟩⟩
  ·rw[jm _ _ _ _ h0,jm _ _ _ _ h0,jm _ _ _ _ h0];exact h1
  ·rw[jg _ _ _ _ h0,jg _ _ _ _ h0,jg _ _ _ _ h0];exact h2
theorem Hp.cut(h:Hp w p g L){n c:Nat}(hc:w.cell? ⟨p,2,none⟩=some (.slice (some ⟨g,0,none⟩) L.length c))(hn:n<=L.length):
  Hp (w.setCell ⟨p,2,none⟩ (.slice (some ⟨g,0,none⟩) n c)) p g (L.take n):=by
 obtain⟨v,h1,h2,h3,h4,h5⟩:=h;rw[hc]at h1;injection h1 with h1;subst h1;rcases h5 with⟨h6,_⟩|⟨c',h6,h7,h8,h9⟩
 ·simp at h6
 ·simp at h6;subst h6;refine⟨.slice (some ⟨g,0,none⟩) n c,KO w _ _ hc,by rw[yD];exact h2,by simpa using h3,?_,.inr ⟨c,by rw[XT,Nat.min_eq_left hn],by rw[XT];omega,h8,by simpa using h9⟩⟩;refine(h4.cut hn).other fun b m c' hv=>?_
  simp at hv;obtain⟨rfl,_⟩:=hv;exact QO _ _ _ _ h8
end
end HB
namespace HeapP
def Least(L:List En)(k c m:Nat):Prop:=(m=k\/(2*k+1<=m/\m<c/\m<L.length))/\∀ y,L[m]?=some y->∀ c' z,(c'=k\/(2*k+1<=c'/\c'<c))->L[c']?=some z->le y z
theorem Least.start(L:List En)(k:Nat):Least L k (2*k+1) k:=⟨.inl rfl,fun y hy c' z hc hz=>by
 obtain rfl:c'=k:=by omega
 rw[hy]at hz;injection hz with hz;subst hz;exact le_refl _⟩
theorem Least.take{L:List En}{k c m:Nat}{x y:En}(h:Least L k c m)(hc:2*k+1<=c)(hx:L[c]?=some x)(hy:L[m]?=some y)(hlt:lt x y=true):Least L k (c+1) c:=by
 refine⟨.inr ⟨hc,by omega,(qd.1 hx).1⟩,fun x' hx' c' z h0 hz=>?_⟩;rw[hx]at hx';injection hx' with hx';subst hx';by_cases he:c'=c
 ·subst he;rw[hx]at hz;injection hz with hz;subst hz;exact le_refl _
 ·exact le_trans (le_of_lt hlt) (h.2 y hy c' z (by omega) hz)
theorem Least.keep{L:List En}{k c m:Nat}{x y:En}(h:Least L k c m)(hx:L[c]?=some x)(hy:L[m]?=some y)(hlt:lt x y=false):Least L k (c+1) m:=by
 refine⟨by have:=h.1;omega,fun y' h0 c' z h1 hz=>?_⟩;rw[hy]at h0;injection h0 with h0;subst h0;by_cases he:c'=c
 ·subst he;rw[hx]at hz;injection hz with hz;subst hz;exact hlt
 ·exact h.2 y hy c' z (by omega) hz
end HeapP
namespace HeapP
def zA(L:List En):En:=match L with|[]=>⟨0,0,0⟩|a::_=>a
theorem WB{L:List En}(h:L.length=0):zA L=⟨0,0,0⟩:=by cases L with|nil=>rfl|cons a L=>simp at h
theorem ke{L:List En}(h:0<L.length):L[0]?=some (zA L):=by cases L with|nil=>simp at h|cons a L=>rfl
end HeapP
end
end Go.Proofs.YtdeogmbfgkepeaaGreatDoor
