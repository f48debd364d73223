/- Contracts that WholeBins needs. Each tells its conditions. -/
import Derived.BigRegion
import Derived.Deep.DeepCutAuto
import Derived.Test.YtdeogmbfgkepeaaGreatDoorQ03
set_option linter.unusedVariables false
set_option linter.unusedSimpArgs false
set_option maxRecDepth 100000
set_option maxHeartbeats 64000000
namespace Go.Proofs.YtdeogmbfgkepeaaGreatDoor
open Go.Proofs.Tryz
open Go.Value renaming int->O
open Go.IntKind renaming i64->J
section
open Go.RowKit HB HeapP
namespace HB
structure Only(p g:Nat)(w w':World):Prop where
 os:w'.os=w.os
 tape:w'.tape=w.tape
 output:w'.output=w.output
 size:w.heap.size<=w'.heap.size
 block:∀ k,k<w.heap.size->k≠p->k≠g->w'.heap[k]?=w.heap[k]?
 rest:p<w.heap.size->∀ o,o≠2->w'.cell? ⟨p,o,none⟩=w.cell? ⟨p,o,none⟩/\w'.frozen? ⟨p,o,none⟩=w.frozen? ⟨p,o,none⟩
section
variable{p g g' B:Nat}{w w1 w':World}
theorem jm(w:World)(a:Addr)(u:Value)(q:Addr)(h:q.block≠a.block):(w.setCell a u).cell? q=w.cell? q:=by
 unfold World.cell?;rw[Below.heap_setCell _ _ _ _ h]
theorem jg(w:World)(a:Addr)(u:Value)(q:Addr)(h:q.block≠a.block):(w.setCell a u).frozen? q=w.frozen? q:=by
 unfold World.frozen?;rw[Below.heap_setCell _ _ _ _ h]
theorem vE{p o:Nat}(h:w'.heap[p]?=w.heap[p]?):w'.cell? ⟨p,o,none⟩=w.cell? ⟨p,o,none⟩/\w'.frozen? ⟨p,o,none⟩=w.frozen? ⟨p,o,none⟩:=
 ⟨World.cell?_of_block (a:=⟨p,o,none⟩) h,World.frozen?_of_block (a:=⟨p,o,none⟩) h⟩
theorem Only.refl(p g:Nat)(w:World):Only p g w w:=⟨rfl,rfl,rfl,fi,fun _ _ _ _=>rfl,fun _ _ _=>⟨rfl,rfl⟩⟩
theorem Only.trans(h:Only p g w w1)(k:Only p g' w1 w')(hg:g'=g\/w.heap.size<=g'):Only p g w w':=
 ⟨k.os.trans h.os,k.tape.trans h.tape,k.output.trans h.output,Nat.le_trans h.size k.size,fun i hi h1 h2=>(k.block i (by have:=h.size;omega) h1 (by omega)).trans (h.block i hi h1 h2),
  fun hp o ho=>⟨((k.rest (Nat.lt_of_lt_of_le hp h.size) o ho).1).trans (h.rest hp o ho).1,((k.rest (Nat.lt_of_lt_of_le hp h.size) o ho).2).trans (h.rest hp o ho).2⟩⟩
theorem Only.of_below(h:fj w w'):Only p g w w':=⟨h.os,h.tape,h.output,h.size,fun k hk _ _=>h.block k hk,fun hp o _=>vE (h.block p hp)⟩
theorem Only.then_(h:Only p g w w1)(hb:fj w1 w'):Only p g w w':=h.trans (g':=g) (Only.of_below hb) (.inl rfl)
theorem Only.drew(h:Only p g w w'):Only p g w w'.drew:=h.then_ fh.drew
theorem Only.alloc(h:Only p g w w')(o:Obj):Only p g w (w'.alloc o):=h.then_ (fh.alloc fi o)
theorem Only.set(h:Only p g w w'){a:Addr}(ha:a=⟨p,2,none⟩\/(a.block=g/\g≠p))(u:Value):Only p g w (w'.setCell a u):=by
 refine⟨h.os,h.tape,h.output,by have:=h.size;simpa using this,fun k hk h1 h2=>?_,fun hp o ho=>?_⟩
 ·rw[Below.heap_setCell _ _ _ _ (by
   rcases ha with ha|ha
   ·subst ha;exact h1
   ·omega)]
  exact h.block k hk h1 h2
 ·rw[World.frozen?_setCell];refine⟨Eq.trans ?_ (h.rest hp o ho).1,(h.rest hp o ho).2⟩;rcases ha with ha|⟨ha,hg⟩
  ·subst ha;exact World.cell?_setCell_other w' _ _ _ (by intro e;injection e with _ e _;exact ho e.symm)
  ·exact jm _ _ _ _ (by simp only;omega)
theorem Only.setNew(h:Only p g w w'){a:Addr}(ha:w.heap.size<=a.block)(u:Value):Only p g w (w'.setCell a u):=by
 refine⟨h.os,h.tape,h.output,by have:=h.size;simpa using this,fun k hk h1 h2=>?_,fun hp o ho=>?_⟩
 ·rw[Below.heap_setCell _ _ _ _ (by omega)];exact h.block k hk h1 h2
 ·rw[World.frozen?_setCell];exact⟨(jm _ _ _ _ (by simp only;omega)).trans (h.rest hp o ho).1,(h.rest hp o ho).2⟩
theorem Only.frozen(h:Only p g w w'){a:Addr}{u:Value}(hc:w.cell? a=some u)(hf:w.frozen? a=false)(h1:a.block≠p)(h2:a.block≠g):w'.frozen? a=false:=by
 have hk:=World.block_lt_of_cell? w a hc;have:=h.block a.block hk h1 h2;unfold World.frozen? at*;rw[this];exact hf
theorem Only.below(h:Only p g w w')(h1:B<=p)(h2:B<=g)(h3:B<=w.heap.size):Below B w w':=
 ⟨h.os,h.tape,h.output,h.size,fun k hk=>h.block k (by omega) (by omega) (by omega)⟩
theorem Only.cell(h:Only p g w w'){a:Addr}{u:Value}(hc:w.cell? a=some u)(h1:a.block≠p)(h2:a.block≠g):w'.cell? a=some u:=by
 have hk:=World.block_lt_of_cell? w a hc;have:=h.block a.block hk h1 h2;unfold World.cell? at*;rw[this];exact hc
theorem Own.other{α:Type}{f:α->List Value}{base sz:Nat}{e:TypeId}{v:Value}{l:List α}(h:Own w base e sz f v l)(hb:∀ b n c,v=.slice (some ⟨b,0,none⟩) n c->w'.heap[b]?=w.heap[b]?):Own w' base e sz f v l:=by
 refine⟨h.1,?_⟩;rcases h.2 with h2|⟨b,cap,cur,hv,h3,h4,rest⟩
 ·exact .inl h2
 ·exact .inr ⟨b,cap,cur,hv,h3,by rw[hb _ _ _ hv];exact h4,rest⟩
end
structure Trio(w:World)(r:Nat)(x y z:Value):Prop where
 c0:w.cell? ⟨r,0,none⟩=some x
 c1:w.cell? ⟨r,1,none⟩=some y
 c2:w.cell? ⟨r,2,none⟩=some z
 f0:w.frozen? ⟨r,0,none⟩=false
 f1:w.frozen? ⟨r,1,none⟩=false
 f2:w.frozen? ⟨r,2,none⟩=false
 lt:r<w.heap.size
section
variable{p g r:Nat}{w w':World}{x y z:Value}
theorem Trio.new(w:World)(e:TypeId)(x y z:Value):Trio (w.alloc (.cells #[x,y,z] e)) w.heap.size x y z:=by
 have key:∀ j,(w.alloc (.cells #[x,y,z] e)).cell? ⟨w.heap.size,j,none⟩=[x,y,z][j]?:=fun j=>by
  rw[cell_of_row _ w.heap.size j #[x,y,z] e (0,0) (heap_alloc_new w _)];simp
 have kf:∀ j,(w.alloc (.cells #[x,y,z] e)).frozen? ⟨w.heap.size,j,none⟩=false:=fun j=>by
  unfold World.frozen?;rw[heap_alloc_new w _];simp
 exact⟨key 0,key 1,key 2,kf 0,kf 1,kf 2,by simp⟩
theorem Trio.only(h:Trio w r x y z)(ho:Only p g w w')(h1:r≠p)(h2:r≠g):Trio w' r x y z:=
 ⟨ho.cell h.c0 h1 h2,ho.cell h.c1 h1 h2,ho.cell h.c2 h1 h2,ho.frozen h.c0 h.f0 h1 h2,ho.frozen h.c1 h.f1 h1 h2,ho.frozen h.c2 h.f2 h1 h2,by have:=h.lt;have:=ho.size;omega⟩
theorem Trio.below(h:Trio w r x y z)(hb:fj w w'):Trio w' r x y z:=
 ⟨zf hb h.c0,zf hb h.c1,zf hb h.c2,(hb.frozen h.lt).trans h.f0,(hb.frozen h.lt).trans h.f1,(hb.frozen h.lt).trans h.f2,Nat.lt_of_lt_of_le h.lt hb.size⟩
end
def Hp(w:World)(p g:Nat)(L:List En):Prop:=
 ∃v,w.cell? ⟨p,2,none⟩=some v/\w.frozen? ⟨p,2,none⟩=false/\p<w.heap.size/\Own w 0 312 3 ZT v L/\((v=.slice none 0 0/\L=[]/\g=p)\/(∃c,v=.slice (some ⟨g,0,none⟩) L.length c/\L.length<=c/\g≠p/\g<w.heap.size))
section
variable{p g B:Nat}{L:List En}{w w':World}
theorem Hp.kept(h:Hp w p g L)(hs:w.heap.size<=w'.heap.size)(hp:w'.heap[p]?=w.heap[p]?)(hg:w'.heap[g]?=w.heap[g]?):Hp w' p g L:=by
 obtain⟨v,h1,h2,h3,h4,h5⟩:=h;refine⟨v,?_,?_,by omega,h4.other fun b n c hv=>?_,?_⟩
 ·unfold World.cell? at*;rw[hp];exact h1
 ·unfold World.frozen? at*;rw[hp];exact h2
 ·rcases h5 with⟨rfl,_⟩|⟨c',rfl,_⟩
  ·simp at hv
  ·simp at hv;obtain⟨rfl,_⟩:=hv;exact hg
 ·rcases h5 with h5|⟨c,h6,h7,h8,h9⟩
  ·exact .inl h5
  ·exact .inr ⟨c,h6,h7,h8,by omega⟩
theorem Hp.gl(h:Hp w p g L):g<w.heap.size:=by
 obtain⟨v,h1,h2,h3,h4,h5⟩:=h;rcases h5 with⟨_,_,rfl⟩|⟨c,h6,h7,h8,h9⟩
 ·exact h3
 ·exact h9
theorem Hp.below(h:Hp w p g L)(hb:fj w w'):Hp w' p g L:=
 h.kept hb.size (hb.block _ (by obtain⟨_,_,_,h3,_⟩:=h;exact h3)) (hb.block _ h.gl)
theorem Hp.setOther(h:Hp w p g L){a:Addr}(h1:a.block≠p)(h2:a.block≠g)(u:Value):Hp (w.setCell a u) p g L:=
 h.kept (by simp) (Below.heap_setCell _ _ _ _ (fun e=>h1 e.symm)) (Below.heap_setCell _ _ _ _ (fun e=>h2 e.symm))
theorem Hp.drew(h:Hp w p g L):Hp w.drew p g L:=h.below fh.drew
theorem Hp.at_(h:Hp w p g L)(hn:0<L.length):∃ c,w.cell? ⟨p,2,none⟩=some (.slice (some ⟨g,0,none⟩) L.length c)/\L.length<=c/\g≠p/\Own w 0 312 3 ZT (.slice (some ⟨g,0,none⟩) L.length c) L:=by
 obtain⟨v,h1,h2,h3,h4,h5⟩:=h;rcases h5 with⟨_,rfl,_⟩|⟨c,rfl,h7,h8,_⟩
 ·simp at hn
 ·exact⟨c,h1,h7,h8,h4⟩
theorem Hp.sl(h:Hp w p g L):∃ A c,w.cell? ⟨p,2,none⟩=some (.slice A L.length c)/\L.length<=c:=by
 obtain⟨v,h1,h2,h3,h4,h5⟩:=h;rcases h5 with⟨rfl,rfl,_⟩|⟨c,rfl,h7,_⟩
 ·exact⟨none,0,h1,fi⟩
 ·exact⟨_,c,h1,h7⟩
theorem Hp.swap(h:Hp w p g L){i j:Nat}{x y:En}(hi:L[i]?=some x)(hj:L[j]?=some y):
  Hp ((((((w.setCell ⟨g,i*3,none⟩ (O J y.t)).setCell ⟨g,i*3+1,none⟩ (O J y.k)).setCell ⟨g,i*3+2,none⟩ (O J y.i)).setCell ⟨g,j*3,none⟩ (O J x.t)).setCell ⟨g,j*3+1,none⟩ (O J x.k)).setCell ⟨g,j*3+2,none⟩ (O J x.i)) p g (sw L i j x y):=by
 have hl:0<L.length:=by have:=(List.getElem?_eq_some_iff.1 hi).1;omega
 obtain⟨v,h1,h2,h3,h4,h5⟩:=h;rcases h5 with⟨_,rfl,_⟩|⟨c,rfl,h7,h8,h9⟩
 ·simp at hl
 ·have hjl:=(List.getElem?_eq_some_iff.1 hj).1;have s1:=h4.store_ent rfl hi y;obtain⟨y',hj'⟩:∃ y',(L.set i y)[j]?=some y':=⟨_,List.getElem?_eq_getElem (by simpa using hjl)⟩;have s2:=s1.1.store_ent (by simp) hj' x;refine⟨.slice (some ⟨g,0,none⟩) L.length c,?_,?_,by simpa using h3,s2.1,.inr ⟨c,by rw[ZR],by rw[ZR];exact h7,h8,by simpa using h9⟩⟩
  ·have hne:(⟨p,2,none⟩:Addr).block≠g:=fun hh=>h8 (Eq.symm hh)
   rw[jm _ _ _ _ hne,jm _ _ _ _ hne,jm _ _ _ _ hne,jm _ _ _ _ hne,jm _ _ _ _ hne,jm _ _ _ _ hne];exact h1
  ·have hne:(⟨p,2,none⟩:Addr).block≠g:=fun hh=>h8 (Eq.symm hh)
   rw[jg _ _ _ _ hne,jg _ _ _ _ hne,jg _ _ _ _ hne,jg _ _ _ _ hne,jg _ _ _ _ hne,jg _ _ _ _ hne];exact h2
theorem Own.cut{e:TypeId}{c n:Nat}(h:Own w B e 3 ZT (.slice (some ⟨g,0,none⟩) L.length c) L)(hn:n<=L.length):Own w B e 3 ZT (.slice (some ⟨g,0,none⟩) n c) (L.take n):=by
 have hlen:(L.take n).length=n:=by rw[List.length_take];omega
 rcases h with⟨h1,h2⟩;refine⟨by rw[flat_length jD],.inr ?_⟩;rcases h2 with⟨hv,_⟩|⟨g',cap,cur,hv,h3,h4,h5,h6,h7,h8⟩
 ·simp at hv
 ·simp at hv;obtain⟨rfl,rfl⟩:=hv;refine⟨g,c,cur,by rw[hlen],h3,h4,by omega,h6,h7,?_⟩;rw[hlen,<-xE jD,<-h8,List.take_take,Nat.min_eq_left (Nat.mul_le_mul_right _ hn)]
theorem Hp.set0(h:Hp w p g L){x:En}(hx:L[0]?=some x)(z:En):
  Hp (((w.setCell ⟨g,0,none⟩ (O J z.t)).setCell ⟨g,1,none⟩ (O J z.k)).setCell ⟨g,2,none⟩ (O J z.i)) p g (L.set 0 z):=by
 have hl:0<L.length:=(List.getElem?_eq_some_iff.1 hx).1;obtain⟨v,h1,h2,h3,h4,h5⟩:=h;rcases h5 with⟨_,rfl,_⟩|⟨c,rfl,h7,h8,h9⟩
 ·simp at hl
 ·have s1:=(h4.store_ent rfl hx z).1;have hne:(⟨p,2,none⟩:Addr).block≠g:=fun hh=>h8 (Eq.symm hh)
  refine⟨.slice (some ⟨g,0,none⟩) L.length c,?_,?_,by simpa using h3,s1,.inr ⟨c,by simp,by simpa using h7,h8,by simpa using h9⟩⟩
  ·rw[jm _ _ _ _ hne,jm _ _ _ _ hne,jm _ _ _ _ hne];exact h1
  ·rw[jg _ _ _ _ hne,jg _ _ _ _ hne,jg _ _ _ _ hne];exact h2
theorem Hp.cut(h:Hp w p g L){n c:Nat}(hc:w.cell? ⟨p,2,none⟩=some (.slice (some ⟨g,0,none⟩) L.length c))(hn:n<=L.length):
  Hp (w.setCell ⟨p,2,none⟩ (.slice (some ⟨g,0,none⟩) n c)) p g (L.take n):=by
 obtain⟨v,h1,h2,h3,h4,h5⟩:=h;rw[hc]at h1;injection h1 with h1;subst h1;rcases h5 with⟨h6,_⟩|⟨c',h6,h7,h8,h9⟩
 ·simp at h6
 ·simp at h6;subst h6;refine⟨.slice (some ⟨g,0,none⟩) n c,World.cell?_setCell_same w _ _ hc,by rw[World.frozen?_setCell];exact h2,by simpa using h3,?_,.inr ⟨c,by rw[List.length_take,Nat.min_eq_left hn],by rw[List.length_take];omega,h8,by simpa using h9⟩⟩;refine(h4.cut hn).other fun b m c' hv=>?_
  simp at hv;obtain⟨rfl,_⟩:=hv;exact Below.heap_setCell _ _ _ _ h8
end
end HB
namespace HeapP
def Least(L:List En)(k c m:Nat):Prop:=(m=k\/(2*k+1<=m/\m<c/\m<L.length))/\∀ y,L[m]?=some y->∀ c' z,(c'=k\/(2*k+1<=c'/\c'<c))->L[c']?=some z->le y z
theorem Least.start(L:List En)(k:Nat):Least L k (2*k+1) k:=⟨.inl rfl,fun y hy c' z hc hz=>by
 obtain rfl:c'=k:=by omega
 rw[hy]at hz;injection hz with hz;subst hz;exact le_refl _⟩
theorem Least.take{L:List En}{k c m:Nat}{x y:En}(h:Least L k c m)(hc:2*k+1<=c)(hx:L[c]?=some x)(hy:L[m]?=some y)(hlt:lt x y=true):Least L k (c+1) c:=by
 refine⟨.inr ⟨hc,by omega,(List.getElem?_eq_some_iff.1 hx).1⟩,fun x' hx' c' z hc' hz=>?_⟩;rw[hx]at hx';injection hx' with hx';subst hx';by_cases he:c'=c
 ·subst he;rw[hx]at hz;injection hz with hz;subst hz;exact le_refl _
 ·exact le_trans (le_of_lt hlt) (h.2 y hy c' z (by omega) hz)
theorem Least.keep{L:List En}{k c m:Nat}{x y:En}(h:Least L k c m)(hx:L[c]?=some x)(hy:L[m]?=some y)(hlt:lt x y=false):Least L k (c+1) m:=by
 refine⟨by have:=h.1;omega,fun y' hy' c' z hc' hz=>?_⟩;rw[hy]at hy';injection hy' with hy';subst hy';by_cases he:c'=c
 ·subst he;rw[hx]at hz;injection hz with hz;subst hz;exact hlt
 ·exact h.2 y hy c' z (by omega) hz
end HeapP
theorem YK(p g i s n:Nat)(L:List En)(w:World)(h:Hp w p g L)(hd:YH L s i)(hs:s<=i)(hl:L.length=n)(hn:n<=1000000)(hi:i<=1000000):
  Calls prog 244 #[.pointer (some ⟨p,2,none⟩),O J i] w fun e w'=>e=.returned (.tuple #[])/\∃ L',Hp w' p g L'/\Ww L' s/\L'.Perm L/\Only p g w w':=by
 have HH:=ze h;have HD:=ze hd;have Hl:=ze hl;clear h hd hl;go_enter func244,ntmps244;go_wp2_with fail
 go_loopw [1] (fun si wr=>∃(k:Nat)(L':List En),si=O J k/\s<=k/\k<=1000000/\Hp wr p g L'/\YH L' s k/\L'.Perm L/\Only p g w wr) (fun si _=>n-(intOf si).toNat)
 case atStart=>exact⟨i,L,rfl,hs,hi,HH.o,HD.o,List.Perm.refl _,Only.refl _ _ _⟩
 case round=>
  obtain⟨k,L',rfl,hsk,hk,hp',hd',hpm,hon⟩:=hrel;have hl':=hpm.length_eq.trans Hl.o;have HP:=ze hp';have HD':=ze hd';have HPM:=ze hpm;have HL:=ze hl';obtain⟨A,cc,cp,hcc⟩:=hp'.sl;rw[hl']at cp hcc;have HON:=ze hon;have HLS:=ze (Least.start L' k);clear hp' hd' hpm hl' hon HH HD;go_wp2_with fail
  go_loopw [4,5] (fun s4 s5 wx=>∃(m c:Nat),s4=O J m/\s5=O J c/\2*k+1<=c/\c<=2*k+3/\Least L' k c m/\fj wr wx) (fun _ s5 _=>2*k+3-(intOf s5).toNat)
  case atStart=>exact⟨k,2*k+1,rfl,by go_num,by omega,by omega,HLS.o,fh⟩
  case round=>
   obtain⟨m,c,rfl,rfl,hc1,hc2,hls,hbel⟩:=hrel;have HLE:=ze hls;have HPX:=ze (HP.o.below (hbel.mono fi));have HBX:=ze hbel;have hm1:m=k\/(2*k+1<=m/\m<c/\m<n):=by have:=hls.1;rw[HL.o]at this;exact this
   have cp2:=zf hbel cp;clear hls hbel cp;by_cases hcn:c<=2*k+2/\c<n
   ·obtain⟨h1,h2⟩:=hcn;obtain⟨cc2,cp,hcc2,hgp,hown⟩:=HPX.o.at_ (by rw[HL.o];omega);rw[HL.o]at cp hcc2 hown;obtain⟨x,hx⟩:∃ x,L'[c]?=some x:=⟨_,List.getElem?_eq_getElem (by rw[HL.o];exact h2)⟩;obtain⟨y,hy⟩:∃ y,L'[m]?=some y:=⟨_,List.getElem?_eq_getElem (by rw[HL.o];omega)⟩;obtain⟨x0,x1,x2,-,-,-⟩:=hown.ent_at HL.o hx;obtain⟨y0,y1,y2,-,-,-⟩:=hown.ent_at HL.o hy;have HT:=ze (fun h=>HLE.o.take hc1 hx hy h);have HK:=ze (fun h=>HLE.o.keep hx hy h);have HLS2:=ze (fun w=>ZU x y w);clear cp2 hown hx hy hcc;have i0:(0:Int)<=(c:Int):=by omega
    have i1:(c:Int)<=2*(k:Int)+2:=by omega
    have i2:(c:Int)<(n:Int):=by omega
    have i3:(0:Int)<=(m:Int):=by omega
    have i4:(m:Int)<(n:Int):=by omega
    go_upto_region 4 with fail
    go_cut [40] (fun s wx=>s=.bool (lt x y)/\fj wr wx)
    case first=>
     go_region_held3 (fun w'=>w'.cell? ⟨p,2,none⟩=some (.slice (some ⟨g,0,none⟩) n cc2)/\w'.cell? ⟨g,c*3,none⟩=some (O J x.t)/\w'.cell? ⟨g,c*3+1,none⟩=some (O J x.k)/\w'.cell? ⟨g,c*3+2,none⟩=some (O J x.i)/\w'.cell? ⟨g,m*3,none⟩=some (O J y.t)/\w'.cell? ⟨g,m*3+1,none⟩=some (O J y.k)/\w'.cell? ⟨g,m*3+2,none⟩=some (O J y.i)/\fj wr w')
      (first|(go_split_ands;exact⟨zf hb4 ‹_›,zf hb4 ‹_›,zf hb4 ‹_›,zf hb4 ‹_›,zf hb4 ‹_›,zf hb4 ‹_›,zf hb4 ‹_›,(‹fj wr _›).trans (hb4.mono (‹fj wr _›).size)⟩)|(exact⟨cp,x0,x1,x2,y0,y1,y2,fh.drew⟩))
      (first|(go_at_call 215;refine(HLS2.o _).mono ?_;rintro e w4 ⟨rfl,hb4⟩))
     all_goals(go_wp2_with fail;go_meet;exact⟨rfl,by go_split_ands;assumption⟩)
    case rest=>
     obtain⟨rfl,hbw⟩:=hcut;have HBW:=ze (HBX.o.trans (hbw.mono HBX.o.size));cases hlt:lt x y with
     |true=>
      have HT2:=ze (HT.o hlt);clear hbw hlt;go_wp2_with fail;go_roundw
      case rel=>exact⟨c,c+1,rfl,by go_num,by omega,by omega,HT2.o,HBW.o⟩
      case measure=>simp[intOf];omega
     |false=>
      have HT2:=ze (HK.o hlt);clear hbw hlt;go_wp2_with fail;go_roundw
      case rel=>exact⟨m,c+1,rfl,by go_num,by omega,by omega,HT2.o,HBW.o⟩
      case measure=>simp[intOf];omega
   ·have HE:=ze (show∀y,L'[m]?=some y->∀ c' z,(c'=k\/c'=2*k+1\/c'=2*k+2)->L'[c']?=some z->le y z from fun y hy c' z hc' hz=>HLE.o.2 y hy c' z (by have:=(List.getElem?_eq_some_iff.1 hz).1;rw[HL.o]at this;omega) hz);clear hcc;go_upto_region 2 with fail
    go_cut [23] (fun s wx=>s=.bool false/\wx=wr)
    case first=>
     by_cases hck:c<=2*k+2
     ·have i1:(c:Int)<=2*(k:Int)+2:=by omega
      have i2:decide ((c:Int)<(n:Int))=false:=by simp;omega
      go_wp2_with fail
      go_meet
      exact⟨by simp;omega,rfl⟩
     ·have i1:decide ((c:Int)<=2*(k:Int)+2)=false:=by simp;omega
      go_wp2_with fail
      go_meet
      exact⟨rfl,rfl⟩
    case rest=>
     obtain⟨rfl,rfl⟩:=hcut;clear cp2 HLE;by_cases hmk:m=k
     ·subst hmk;go_wp2_with fail
      (try simp only[Exit.inBlock,Exit.then]);refine bodyPost_ret (results_none rfl _ _ _) rfl ?_
      exact⟨rfl,L',HPX.o,WA HD'.o (fun c x y hc hx hy=>HE.o y hy c x (by omega) hx),HPM.o,HON.o.then_ HBX.o⟩
     ·have hmk2:((m:Int)==(k:Int))=false:=by simp;omega
      obtain⟨cc2,cp,hcc2,hgp,hown⟩:=HPX.o.at_ (by rw[HL.o];omega);rw[HL.o]at cp hcc2 hown;obtain⟨x,hx⟩:∃ x,L'[k]?=some x:=⟨_,List.getElem?_eq_getElem (by rw[HL.o];omega)⟩;obtain⟨y,hy⟩:∃ y,L'[m]?=some y:=⟨_,List.getElem?_eq_getElem (by rw[HL.o];omega)⟩;obtain⟨x0,x1,x2,f0,f1,f2⟩:=hown.ent_at HL.o hx;obtain⟨y0,y1,y2,g0,g1,g2⟩:=hown.ent_at HL.o hy;have HX:=ze hx;have HY:=ze hy;have i0:(0:Int)<=(k:Int):=by omega
      have i1:(k:Int)<(n:Int):=by omega
      have i3:(0:Int)<=(m:Int):=by omega
      have i4:(m:Int)<(n:Int):=by omega
      have HSW:=ze (HPX.o.swap hx hy).drew;have HSO:=ze ((((((((Only.refl p g wc).set (a:=⟨g,k*3,none⟩) (.inr ⟨rfl,hgp⟩) (O J y.t)).set (a:=⟨g,k*3+1,none⟩) (.inr ⟨rfl,hgp⟩) (O J y.k)).set (a:=⟨g,k*3+2,none⟩) (.inr ⟨rfl,hgp⟩) (O J y.i)).set (a:=⟨g,m*3,none⟩) (.inr ⟨rfl,hgp⟩) (O J x.t)).set (a:=⟨g,m*3+1,none⟩) (.inr ⟨rfl,hgp⟩) (O J x.k)).set (a:=⟨g,m*3+2,none⟩) (.inr ⟨rfl,hgp⟩) (O J x.i)).drew);clear hown hx hy;go_wp2_with fail;go_region;go_wp2_with fail;go_roundw
      case rel=>exact⟨m,sw L' k m x y,rfl,by omega,by omega,HSW.o,YI HD'.o hsk (by omega) HX.o HY.o (HE.o y HY.o k x (.inl rfl) HX.o) (fun c' z hc' hz=>HE.o y HY.o c' z (by omega) hz),(Y3 HX.o HY.o (by omega)).trans HPM.o,(HON.o.then_ HBX.o).trans HSO.o (.inl rfl)⟩
      case measure=>simp[intOf];omega
namespace HeapP
def zA(L:List En):En:=match L with|[]=>⟨0,0,0⟩|a::_=>a
theorem WB{L:List En}(h:L.length=0):zA L=⟨0,0,0⟩:=by cases L with|nil=>rfl|cons a L=>simp at h
theorem ke{L:List En}(h:0<L.length):L[0]?=some (zA L):=by cases L with|nil=>simp at h|cons a L=>rfl
end HeapP
theorem vg(p g n:Nat)(L:List En)(w:World)(h:Hp w p g L)(hl:L.length=n)(hn:n<=1000000):
  Calls prog 216 #[.pointer (some ⟨p,2,none⟩)] w (fk (.tuple #[.agg #[O J (zA L).t,O J (zA L).k,O J (zA L).i],.bool (decide (0<n))]) w):=by
 have Hl:=ze hl;rcases Nat.eq_zero_or_pos n with h0|h0
 ·obtain⟨A,c,cp,hc⟩:=h.sl;rw[hl,h0]at cp;rw[WB (by omega)];subst h0;have np:p<w.heap.size:=World.block_lt_of_cell? w _ cp;clear h hc hl;go_enter func216,ntmps216;go_wp2_with fail
  go_returns
  exact⟨rfl,fh.alloc fi _⟩
 ·obtain⟨c,cp,hc,hgp,hown⟩:=h.at_ (by omega);rw[hl]at cp hc hown;obtain⟨x0,x1,x2,-,-,-⟩:=hown.ent_at hl (ke (L:=L) (by omega));have h1:(0:Int)<(n:Int):=by omega
  have h2:((n:Int)==0)=false:=by simp;omega
  have h3:=ze h0;generalize zA L=x at*;have np:p<w.heap.size:=World.block_lt_of_cell? w _ cp;have ng:g<w.heap.size:=World.block_lt_of_cell? w _ x0;clear h hc hl hown h0;go_enter func216,ntmps216;go_wp2_with fail
  go_returns
  exact⟨by rw[decide_eq_true h3.o],fh.alloc fi _⟩
theorem QR(p g n:Nat)(L:List En)(w:World)(h:Hp w p g L)(hh:jt L)(hl:L.length=n)(hn:n<=1000000):
  Calls prog 217 #[.pointer (some ⟨p,2,none⟩)] w fun e w'=>e=.returned (.tuple #[.agg #[O J (zA L).t,O J (zA L).k,O J (zA L).i],.bool (decide (0<n))])/\∃ L',Hp w' p g L'/\jt L'/\(n=0->L'=[])/\(0<n->L.Perm (zA L::L'))/\Only p g w w':=by
 have HP:=ze (fun W(hb:fj w W)=>vg p g n L W (h.below hb) hl hn);have HH:=ze h;have HI:=ze hh;have Hl:=ze hl;rcases Nat.eq_zero_or_pos n with h0|h0
 ·subst h0;have hL:L=[]:=List.eq_nil_of_length_eq_zero hl;have hlt:decide (0<0)=false:=by simp
  subst hL;clear h hh hl;go_enter func217,ntmps217;go_wp2_with(go_at_call 216;refine(HP.o _ (fh.alloc fi _)).mono ?_;rintro e w1 ⟨rfl,hb1⟩;obtain⟨r0,r1,r2,f0,f1,f2,hr⟩:=(Trio.new w 312 (O J 0) (O J 0) (O J 0)).below hb1)
  (try simp only[Exit.inBlock,Exit.then])
  refine bodyPost_ret (by simp[results,Tryz.results217,go_sem,r0,r1,r2,f0,f1,f2,hr];try rfl) rfl ?_;have hB:=(((((((Below.refl w.heap.size w).alloc fi (.cells #[O J 0,O J 0,O J 0] 312)).trans (hb1.mono (by simp))).setCell (p:=⟨w.heap.size,0,none⟩) fi (O J (zA []).t)).setCell (p:=⟨w.heap.size,1,none⟩) fi (O J (zA []).k)).setCell (p:=⟨w.heap.size,2,none⟩) fi (O J (zA []).i)).alloc (by simp;omega) (.cells #[O J (zA []).t,O J (zA []).k,O J (zA []).i] 312));exact⟨rfl,[],HH.o.below hB,HI.o,fun _=>rfl,fun h=>absurd h (by omega),Only.of_below hB⟩
 ·have hlt:decide (0<n)=true:=by simpa using h0
  have H0:=ze h0;obtain⟨m,rfl⟩:∃ m,n=m+1:=⟨n-1,by omega⟩;have HX:=ze (ke (L:=L) (by omega));clear h hh hl h0;generalize zA L=x at*;go_enter func217,ntmps217;go_upto_region 4 with(go_at_call 216;refine(HP.o _ (fh.alloc fi _)).mono ?_;rintro e w1 ⟨rfl,hb1⟩;obtain⟨r0,r1,r2,f0,f1,f2,hr⟩:=(Trio.new w 312 (O J 0) (O J 0) (O J 0)).below hb1);have hB1:=((Below.refl w.heap.size w).alloc fi (.cells #[O J 0,O J 0,O J 0] 312)).trans (hb1.mono (by simp));have hB2:=hB1.alloc (Nat.le_of_lt hr) (.cells #[O J x.t,O J x.k,O J x.i] 312);have HB2:=ze hB2;have HRT:=ze ((⟨r0,r1,r2,f0,f1,f2,hr⟩:Trio w1 w.heap.size (O J 0) (O J 0) (O J 0)).below (fh.alloc fi (.cells #[O J x.t,O J x.k,O J x.i] 312)));have HQT:=ze (Trio.new w1 312 (O J x.t) (O J x.k) (O J x.i));have HP2:=ze (HH.o.below hB2);have hgl:=HH.o.gl;have hpl:p<w.heap.size:=by obtain⟨_,_,_,h3,_⟩:=HH.o;exact h3
  clear hB1 hB2 hb1 r0 r1 r2 f0 f1 f2 HP;generalize w1.alloc (.cells #[O J x.t,O J x.k,O J x.i] 312)=w2 at*;generalize w1.heap.size=q at*;have HNE:=ze (show w.heap.size≠p/\w.heap.size≠g/\q≠p/\q≠g/\q≠w.heap.size/\w.heap.size<=q by omega);generalize hrr:w.heap.size=r at*;obtain⟨c,cp,hc,hgp,hown⟩:=HP2.o.at_ (by rw[Hl.o];omega);rw[Hl.o]at cp hc hown;have fp:w2.frozen? ⟨p,2,none⟩=false:=by obtain⟨_,_,h2,_⟩:=HP2.o;exact h2
  obtain⟨z,hz⟩:∃ z,L[m]?=some z:=⟨_,List.getElem?_eq_getElem (by rw[Hl.o];omega)⟩;obtain⟨x0,x1,x2,f0,f1,f2⟩:=hown.ent_at Hl.o HX.o;obtain⟨z0,z1,z2,-,-,-⟩:=hown.ent_at Hl.o hz;have HZ:=ze hz;have i0:(0:Int)<=(m:Int):=by omega
  have i1:(m:Int)<(m:Int)+1:=by omega
  obtain⟨l1,l2,l3⟩:=YJ Hl.o HX.o HZ.o HI.o;have HP3:=ze (HP2.o.set0 HX.o z).drew;have HO3:=ze (((((Only.refl p g w2).set (a:=⟨g,0,none⟩) (.inr ⟨rfl,hgp⟩) (O J z.t)).set (a:=⟨g,1,none⟩) (.inr ⟨rfl,hgp⟩) (O J z.k)).set (a:=⟨g,2,none⟩) (.inr ⟨rfl,hgp⟩) (O J z.i)).drew);have L1:=ze l1;have L2:=ze l2;have L3:=ze l3;clear hown hz l1 l2 l3 cp fp hc;obtain⟨c3,cp3,hc3,_,_⟩:=HP2.o.at_ (by rw[Hl.o];omega);rw[Hl.o]at cp3 hc3;go_wp2_with fail;go_region;generalize((((w2.setCell ⟨g,0,none⟩ (O J z.t)).setCell ⟨g,1,none⟩ (O J z.k)).setCell ⟨g,2,none⟩ (O J z.i)).drew)=w3 at*;clear cp3 x0 x1 x2 z0 z1 z2 f0 f1 f2;have hls:(L.set 0 z).length=m+1:=by rw[List.length_set];exact Hl.o
  obtain⟨c,cp,hc,_,_⟩:=HP3.o.at_ (by rw[hls];omega);have HP4:=ze (HP3.o.cut (n:=m) cp (by rw[hls];omega));rw[hls]at cp hc;have fp:w3.frozen? ⟨p,2,none⟩=false:=by obtain⟨_,_,h2,_⟩:=HP3.o;exact h2
  have HO4:=ze (HO3.o.set (a:=⟨p,2,none⟩) (.inl rfl) (.slice (some ⟨g,0,none⟩) m c));have hdn:=YK p g 0 0 m ((L.set 0 z).take m) _ HP4.o (Vz L2.o) fi L1.o (by omega) (by omega);rw[show((0:Nat):Int)=0 from rfl]at hdn;have HDN:=ze hdn;clear hdn;clear hls;generalize(L.set 0 z).take m=N at*;clear HP4 HP3 HO3;go_wp2_with(go_at_call 244;refine(HDN.o).mono ?_;rintro e w5 ⟨rfl,L5,hp5,hf5,hm5,ho5⟩;have HO5:=ze (HO4.o.trans ho5 (.inl rfl));obtain⟨r0,r1,r2,rf0,rf1,rf2,hr5⟩:=HRT.o.only HO5.o HNE.o.1 HNE.o.2.1;obtain⟨q0,q1,q2,qf0,qf1,qf2,hq5⟩:=HQT.o.only HO5.o HNE.o.2.2.1 HNE.o.2.2.2.1;have HP5:=ze hp5;have HF5:=ze hf5;have HM5:=ze hm5;clear hp5 hf5 hm5 ho5)
  (try simp only[Exit.inBlock,Exit.then])
  refine bodyPost_ret (by simp[results,Tryz.results217,go_sem, *];try rfl) rfl ?_;have hrp:=HNE.o.1;have hrg:=HNE.o.2.1;have hq1:(⟨r,0,none⟩:Addr).block≠p:=hrp;have hq2:(⟨r,0,none⟩:Addr).block≠g:=hrg;refine⟨by rw[hlt],L5,((HP5.o.setOther (a:=⟨r,0,none⟩) hrp hrg _).setOther (a:=⟨r,1,none⟩) hrp hrg _).setOther (a:=⟨r,2,none⟩) hrp hrg _,HF5.o,fun h=>absurd h (by omega),fun _=>L3.o.trans ((List.perm_cons x).2 HM5.o.symm),?_⟩;have hb2:=HB2.o;rw[<-hrr]at hb2;exact((((Only.of_below hb2).trans HO5.o (.inl rfl)).setNew (a:=⟨r,0,none⟩) (by simp;omega) _).setNew (a:=⟨r,1,none⟩) (by simp;omega) _).setNew (a:=⟨r,2,none⟩) (by simp;omega) _
end
end Go.Proofs.YtdeogmbfgkepeaaGreatDoor
