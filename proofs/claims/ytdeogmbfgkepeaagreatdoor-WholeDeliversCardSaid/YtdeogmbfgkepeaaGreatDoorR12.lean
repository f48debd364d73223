/- Contracts for WholeDelivers. -/
import Derived.Deep.AppendLies
import Derived.Deep.RegionLaw
import Derived.Test.YtdeogmbfgkepeaaGreatDoorR11
set_option linter.unusedVariables false
set_option linter.unusedSimpArgs false
set_option maxRecDepth 100000
set_option maxHeartbeats 64000000
namespace Go.Proofs.YtdeogmbfgkepeaaGreatDoor
open Go.Proofs.Tryz
open Go.Value renaming int->O
open Go.IntKind renaming i64->J
section
open Go.RowKit HB HeapP
namespace HB
theorem Hp.parts{w:l6}{p g:Nat}{L:List En}(h:Hp w p g L):∃ v,w.cell? ⟨p,2,none⟩=some v/\w.frozen? ⟨p,2,none⟩=false/\p<w.heap.size/\w.ownsRow 0 312 3 v L.length (L.flatMap ZT)/\(∀k,v.ownBlock=some k->k=g/\g≠p):=by
 obtain⟨v,h1,h2,h3,h4,h5⟩:=h;refine⟨v,h1,h2,h3,h4,fun k hk=>?_⟩;rcases h5 with⟨rfl,_⟩|⟨c,rfl,_,h8,_⟩
 ·simp[Value.ownBlock]at hk
 ·simp[Value.ownBlock]at hk;exact⟨hk.symm,h8⟩
theorem Hp.pushed{w w1:l6}{p g g' n cap:Nat}{L:List En}{e:En}{v:Value}(hp:p<w.heap.size)(hc:w.cell? ⟨p,2,none⟩=some v)(hf:w.frozen? ⟨p,2,none⟩=false)(hv:∀ k,v.ownBlock=some k->k=g/\g≠p)(hn:L.length=n)
  (k1:w1.ownsRow 0 312 3 (.slice (some ⟨g',0,none⟩) (n+1) cap) (n+1) (L.flatMap ZT++ZT e))(k2:w.grownBy w1 v.ownBlock)(k3:v.ownBlock=some g'\/g'=w.heap.size)(k4:g'<w1.heap.size):
  Hp (w1.setCell ⟨p,2,none⟩ (.slice (some ⟨g',0,none⟩) (n+1) cap)) p g' (L++[e])/\Only p g w (w1.setCell ⟨p,2,none⟩ (.slice (some ⟨g',0,none⟩) (n+1) cap))/\(g'=g\/w.heap.size<=g')/\w1.cell? ⟨p,2,none⟩=some v/\w1.frozen? ⟨p,2,none⟩=false:=by
 have h6:g'≠p:=by
  rcases k3 with k3|k3
  ·obtain⟨a,b⟩:=hv _ k3;omega
  ·omega
 have h0:w1.heap[p]?=w.heap[p]?:=k2.block p hp (fun h=>by
  obtain⟨a,b⟩:=hv p h.symm;exact b a.symm)
 have h4:w1.cell? ⟨p,2,none⟩=some v:=by rw[vg (w:=w) (a:=⟨p,2,none⟩) h0];exact hc
 have h5:w1.frozen? ⟨p,2,none⟩=false:=by rw[xC (w:=w) (a:=⟨p,2,none⟩) h0];exact hf
 have h3:(L++[e]).length=n+1:=by simp[hn]
 refine⟨⟨_,KO w1 _ _ h4,?_,by simpa using kK hp k2.size,?_,.inr ⟨cap,by rw[h3],?_,h6,by simpa using k4⟩⟩,?_,?_,h4,h5⟩
 ·rw[yD];exact h5
 ·have:Own w1 0 312 3 ZT (.slice (some ⟨g',0,none⟩) (n+1) cap) (L++[e]):=by
   show w1.ownsRow _ _ _ _ (L++[e]).length ((L++[e]).flatMap ZT)
   rw[h3];simpa using k1
  refine this.other fun b m c hh=>?_
  simp at hh;obtain⟨rfl,_⟩:=hh;exact QO _ _ _ _ h6
 ·rw[h3];rcases k1.2 with⟨hh,_⟩|⟨_,cap',_,hh,_,_,h7,_⟩
  ·simp at hh
  ·simp at hh;omega
 ·refine Only.set (p:=p) (g:=g) ⟨k2.os,k2.tape,k2.output,k2.size,fun k hk h1 h2=>k2.block k hk fun h=>?_,fun _ o _=>vE h0⟩ (.inl rfl) _;obtain⟨a,b⟩:=hv k h.symm;exact h2 a
 ·rcases k3 with k3|k3
  ·exact .inl (hv _ k3).1
  ·exact .inr (Nat.le_of_eq k3.symm)
end HB
namespace HeapP
def At(l:List En)(a:En)(k:Nat):Prop:=k<=l.length/\(∀x∈l.drop k,lt a x=true)/\(k=0\/∃ y,l[k-1]?=some y/\lt a y=false)
theorem At.srt{l:List En}{a:En}{k:Nat}(h:At l a k)(hs:Zo l):Zo (l.take k++a::l.drop k):=by
 refine an hs (fun x hx=>le_of_lt (h.2.1 x hx)) ?_;rcases h.2.2 with h0|⟨y,hy,h1⟩
 ·subst h0;simp
 ·rcases ZW k with h0|h0
  ·subst h0;simp
  ·exact Wv hs h0 hy h1
end HeapP
namespace HeapP
structure Popped(l out:List En)(ok:Bool)(e:En)(L':List En):Prop where
 srt:Zo (out++(if ok then[e]else[]))
 le:∀ a∈out++(if ok then[e]else[]),∀x∈L',le a x
 perm:l.Perm (out++(if ok then[e]else[])++L')
 none:ok=false->L'=[]
theorem Popped.next{l out L' L2:List En}{e:En}(h:Popped l out true e L')(hh:jt L')(h0:L'.length=0->L2=[])(h1:0<L'.length->L'.Perm (zA L'::L2)):Popped l (out++[e]) (decide (0<L'.length)) (zA L') L2:=by
 have hs:=h.srt;have hl:=h.le;have hp:=h.perm;simp only[if_true]at hs hl hp;rcases ZW L'.length with hz|hz
 ·have hd:decide (0<L'.length)=false:=by simp;exact yj hz
  have hL:L'=[]:=yj hz;rw[hd];refine⟨by simpa using hs,?_,?_,fun _=>h0 hz⟩
  ·rw[h0 hz];intro a _ x hx;simp at hx
  ·rw[h0 hz];rw[hL]at hp;simpa using hp
 ·have hd:decide (0<L'.length)=true:=by simpa using hz
  have h3:=h1 hz;rw[hd];have h2:∀ x∈L2,x∈L':=fun x hx=>h3.mem_iff.2 (yP _ hx)
  have h4:zA L'∈L':=h3.mem_iff.2 xz;refine⟨?_,?_,?_,fun h=>(by cases h)⟩
  ·simp only[if_true];rw[Zo,XZ];refine⟨hs,by simp,fun a ha b hb=>?_⟩;simp only[vN]at hb;subst hb;exact hl a ha _ h4
  ·simp only[if_true];intro a ha x hx;rcases yp.1 ha with ha|ha
   ·exact hl a ha x (h2 x hx)
   ·simp only[vN]at ha;subst ha;exact vO hh (ke hz) x (h2 x hx)
  ·simp only[if_true];refine hp.trans ?_;rw[bU (out++[e])];exact h3.append_left _
end HeapP
namespace HB
theorem Hp.pl{w:l6}{p g:Nat}{L:List En}(h:Hp w p g L):p<w.heap.size:=by obtain⟨_,_,_,h3,_⟩:=h;exact h3
theorem Hp.grown{w w':l6}{p g:Nat}{L:List En}{row:Option Nat}(h:Hp w p g L)(hg:w.grownBy w' row)(h1:some p≠row)(h2:some g≠row):Hp w' p g L:=
 h.kept hg.size (hg.block p (by obtain⟨_,_,_,h3,_⟩:=h;exact h3) h1) (hg.block g h.gl h2)
theorem Trio.grown{w w':l6}{r:Nat}{x y z:Value}{row:Option Nat}(h:Trio w r x y z)(hg:w.grownBy w' row)(h1:some r≠row):Trio w' r x y z:=by
 have hb:=hg.block r h.lt h1;have hc:∀ j,w'.cell? ⟨r,j,none⟩=w.cell? ⟨r,j,none⟩:=fun j=>vg (a:=⟨r,j,none⟩) hb
 have hf:∀ j,w'.frozen? ⟨r,j,none⟩=w.frozen? ⟨r,j,none⟩:=fun j=>xC (a:=⟨r,j,none⟩) hb
 exact⟨(hc 0).trans h.c0,(hc 1).trans h.c1,(hc 2).trans h.c2,(hf 0).trans h.f0,(hf 1).trans h.f1,(hf 2).trans h.f2,kK h.lt hg.size⟩
theorem Own.only{α:Type}{f:α->iZ}{base sz p g:Nat}{e:TypeId}{v:Value}{l:List α}{w w':l6}(h:Own w base e sz f v l)(ho:Only p g w w')(h1:∀ k,v.ownBlock=some k->k≠p/\k≠g):Own w' base e sz f v l:=by
 refine h.other fun b n c hv=>?_
 subst hv;have:=h1 b rfl;exact ho.block b (h.row.lt b rfl).2 this.1 this.2
end HB
namespace HB
theorem kg(w:l6)(q:Nat)(x y z:Value):w.grownBy (((w.setCell ⟨q,0,none⟩ x).setCell ⟨q,1,none⟩ y).setCell ⟨q,2,none⟩ z) (some q):=
 ⟨rfl,rfl,rfl,by simp,fun k _ hk=>by
  have h0:k≠q:=fun h=>hk (by rw[h])
  rw[QO _ _ _ _ h0,QO _ _ _ _ h0,QO _ _ _ _ h0]⟩
theorem Trio.stored{w:l6}{q:Nat}{a b c:Value}(h:Trio w q a b c)(x y z:Value):Trio (((w.setCell ⟨q,0,none⟩ x).setCell ⟨q,1,none⟩ y).setCell ⟨q,2,none⟩ z) q x y z:=by
 have n01:(⟨q,0,none⟩:Addr)≠⟨q,1,none⟩:=by intro e;injection e with _ e _;cases e
 have n02:(⟨q,0,none⟩:Addr)≠⟨q,2,none⟩:=by intro e;injection e with _ e _;cases e
 have n12:(⟨q,1,none⟩:Addr)≠⟨q,2,none⟩:=by intro e;injection e with _ e _;cases e
 have a0:=KO w _ x h.c0;have a1:(w.setCell ⟨q,0,none⟩ x).cell? ⟨q,1,none⟩=some b:=(Zm w _ _ _ n01).trans h.c1;have a2:(w.setCell ⟨q,0,none⟩ x).cell? ⟨q,2,none⟩=some c:=(Zm w _ _ _ n02).trans h.c2;have b0:=(Zm (w.setCell ⟨q,0,none⟩ x) ⟨q,1,none⟩ ⟨q,0,none⟩ y n01.symm).trans a0;have b1:=KO (w.setCell ⟨q,0,none⟩ x) _ y a1;have b2:=(Zm (w.setCell ⟨q,0,none⟩ x) ⟨q,1,none⟩ ⟨q,2,none⟩ y n12).trans a2;refine⟨(Zm _ ⟨q,2,none⟩ ⟨q,0,none⟩ z n02.symm).trans b0,(Zm _ ⟨q,2,none⟩ ⟨q,1,none⟩ z n12.symm).trans b1,KO _ _ z b2,?_,?_,?_,by simpa using h.lt⟩
 ·simp only[yD];exact h.f0
 ·simp only[yD];exact h.f1
 ·simp only[yD];exact h.f2
theorem Own.grown{α:Type}{f:α->iZ}{base sz:Nat}{e:TypeId}{v:Value}{l:List α}{w w':l6}{row:Option Nat}(h:Own w base e sz f v l)(hg:w.grownBy w' row)(hne:v.ownBlock=none\/v.ownBlock≠row):Own w' base e sz f v l:=iR h hg hne
end HB
namespace HeapP
theorem Popped.first{l L1 L2:List En}(hm:L1.Perm l)(hh:jt L1)(h0:L1.length=0->L2=[])(h1:0<L1.length->L1.Perm (zA L1::L2)):Popped l [] (decide (0<L1.length)) (zA L1) L2:=by
 rcases ZW L1.length with hz|hz
 ·have hL:L1=[]:=yj hz;have hd:decide (0<L1.length)=false:=by simp;exact hL
  rw[hd,h0 hz];subst hL;exact⟨by simp[Zo],by simp,by simpa using hm.symm,fun _=>rfl⟩
 ·have hd:decide (0<L1.length)=true:=by simpa using hz
  have hp:=h1 hz;rw[hd];refine⟨by simp[Zo],?_,?_,fun h=>(by cases h)⟩
  ·simp only[if_true,iA,vN];intro a ha x hx;subst ha;exact vO hh (ke hz) x (hp.mem_iff.2 (yP _ hx))
  ·simp only[if_true,iA];exact hm.symm.trans hp
end HeapP
def di:Value->Nat
 |.slice _ n _=>n
 |_=>0
namespace HeapP
structure Gone(L0 out L':List En)(T:Int):Prop where
 srt:Zo out
 le:∀ a∈out,∀x∈L',le a x
 perm:L0.Perm (out++L')
 time:∀ a∈out,a.t<=T
theorem Gone.next{L0 out L' L2:List En}{T:Int}(h:Gone L0 out L' T)(hh:jt L')(hz:0<L'.length)(h1:L'.Perm (zA L'::L2))(ht:(zA L').t<=T):Gone L0 (out++[zA L']) L2 T:=by
 have h2:zA L'∈L':=h1.mem_iff.2 xz;have h0:∀ x∈L2,x∈L':=fun x hx=>h1.mem_iff.2 (yP _ hx)
 refine⟨?_,?_,?_,?_⟩
 ·rw[Zo,XZ];refine⟨h.srt,by simp,fun a ha b hb=>?_⟩;simp only[vN]at hb;subst hb;exact h.le a ha _ h2
 ·intro a ha x hx;rcases yp.1 ha with ha|ha
  ·exact h.le a ha x (h0 x hx)
  ·simp only[vN]at ha;subst ha;exact vO hh (ke hz) x (h0 x hx)
 ·refine h.perm.trans ?_;rw[bU];exact h1.append_left _
 ·intro a ha;rcases yp.1 ha with ha|ha
  ·exact h.time a ha
  ·simp only[vN]at ha;subst ha;exact ht
end HeapP
namespace HB
theorem Only.grown{p g:Nat}{w w1 w2:l6}{row:Option Nat}(h:Only p g w w1)(hg:w1.grownBy w2 row)(hr:∀ k,row=some k->w.heap.size<=k):Only p g w w2:=
 ⟨hg.os.trans h.os,hg.tape.trans h.tape,hg.output.trans h.output,vD h.size hg.size,fun k hk h1 h2=>(hg.block k (by have:=h.size;omega) (fun hh=>by have:=hr k hh.symm;omega)).trans (h.block k hk h1 h2),
  fun hp o ho=>by
   have:=vE (o:=o) (hg.block p (kK hp h.size) (fun hh=>by have:=hr p hh.symm;omega));exact⟨this.1.trans (h.rest hp o ho).1,this.2.trans (h.rest hp o ho).2⟩⟩
end HB
namespace HB
def RdX(w:l6)(p g:Nat)(A:iX)(n:Nat)(l:List En):Prop:=Rd w w.heap.size 3 A n (l.flatMap ZT)/\(0<n->∀ a,A=some a->a.block≠p/\a.block≠g)
section
variable{w w':l6}{p g g' n:Nat}{A:iX}{l:List En}
theorem RdX.only(h:RdX w p g A n l)(ho:Only p g w w')(hg:g'=g\/w.heap.size<=g'):RdX w' p g' A n l:=by
 obtain⟨⟨h1,h2⟩,h3⟩:=h;refine⟨⟨h1,fun hn=>?_⟩,fun hn a ha=>?_⟩
 ·obtain⟨b,off,rfl,hb,hc⟩:=h2 hn;have:=h3 hn _ rfl;exact⟨b,off,rfl,kK hb ho.size,fun j u hu=>ho.cell (a:=⟨b,off+j,none⟩) (hc j u hu) this.1 this.2⟩
 ·obtain⟨b,off,hA,hb,hc⟩:=h2 hn;have:=h3 hn _ ha;refine⟨this.1,?_⟩;rw[hA]at ha;injection ha with ha;subst ha;rcases hg with rfl|hg
  ·exact this.2
  ·simp only;omega
theorem RdX.fresh{base c:Nat}{e:TypeId}(h:Own w base e 3 ZT (.slice A l.length c) l)(hp:p<base)(hg:g<base):RdX w p g A l.length l:=by
 refine⟨Rd.own h.row,fun hn a ha=>?_⟩;subst ha;obtain⟨b,cap,hv,hb,_⟩:=h.at_ hn;simp only[We,Gv]at hv;obtain⟨rfl,_⟩:=hv;simp only;omega
theorem RdX.cut(h:RdX w p g A n l){k cap:Nat}(hk:k<=n)(hc:n<=cap):RdX w p g (if cap=k then A else A.map (·.add (k*3))) (n-k) (l.drop k):=by
 refine⟨by have:=h.1.cut hk hc;rwa [qm jD]at this,fun hn a ha=>?_⟩;have h2:0<n:=by omega
 rw[if_neg (by omega)]at ha;cases A with
 |none=>cases ha
 |some ad=>
  simp only[Option.map_some,Gv]at ha;subst ha;have:=h.2 h2 _ rfl;have hb:(ad.add (k*3)).block=ad.block:=by unfold Addr.add;split<;>rfl
  rw[hb];exact this
end
end HB
namespace HeapP
end HeapP
theorem gy(p g i s n:Nat)(L:List En)(w:l6)(h:Hp w p g L)(hd:YH L s i)(hs:s<=i)(hl:L.length=n)(hn:n<=4000000)(hi:i<=4000000):
  Calls prog 244 #[.pointer (some ⟨p,2,none⟩),O J i] w fun e w'=>e=.returned (.tuple #[])/\∃ L',Hp w' p g L'/\Ww L' s/\L'.Perm L/\Only p g w w':=by
 have HH:=ze h;have HD:=ze hd;have Hl:=ze hl;clear h hd hl
 go_in
 go_wp2_with fail
 go_loopw [1] (fun si wr=>∃(k:Nat)(L':List En),si=O J k/\s<=k/\k<=4000000/\Hp wr p g L'/\YH L' s k/\L'.Perm L/\Only p g w wr) (fun si _=>n-(intOf si).toNat)
 case atStart=>exact⟨i,L,rfl,hs,hi,HH.o,HD.o,iV _,Only.refl _ _ _⟩
 case round=>
  obtain⟨k,L',rfl,hJ,hk,ho,hv,hp,hw⟩:=hrel;have hl':=hp.length_eq.trans Hl.o;have HP:=ze ho;have hr:=ze hv;have hu:=ze hp;have HL:=ze hl';obtain⟨A,cc,cp,hj⟩:=ho.sl;rw[hl']at cp hj;have ht:=ze hw;have hA:=ze (Least.start L' k);clear ho hv hp hl' hw HH HD;go_wp2_with fail
  go_loopw [4,5] (fun s4 s5 wx=>∃(m c:Nat),s4=O J m/\s5=O J c/\2*k+1<=c/\c<=2*k+3/\Least L' k c m/\Below wr.heap.size wr wx) (fun _ s5 _=>2*k+3-(intOf s5).toNat)
  case atStart=>exact⟨k,2*k+1,rfl,by go_num,by omega,by omega,hA.o,fh⟩
  case round=>
   obtain⟨m,c,rfl,rfl,hE,hL,hm,h3⟩:=hrel;have h8:=ze hm;have h9:=ze (HP.o.below (h3.mono fi));have h7:=ze h3;have hN:m=k\/(2*k+1<=m/\m<c/\m<n):=by have:=hm.1;rw[HL.o]at this;exact this
   have cp2:=zf h3 cp;clear hm h3 cp;by_cases hF:c<=2*k+2/\c<n
   ·obtain⟨h1,h2⟩:=hF;obtain⟨cc2,cp,h5,h6,h0⟩:=h9.o.at_ (by rw[HL.o];omega);rw[HL.o]at cp h5 h0;obtain⟨x,hx⟩:∃ x,L'[c]?=some x:=⟨_,kD (by rw[HL.o];exact h2)⟩;obtain⟨y,hy⟩:∃ y,L'[m]?=some y:=⟨_,kD (by rw[HL.o];omega)⟩;obtain⟨x0,x1,x2,-,-,-⟩:=h0.ent_at HL.o hx;obtain⟨y0,y1,y2,-,-,-⟩:=h0.ent_at HL.o hy;have HT:=ze (fun h=>h8.o.take hE hx hy h);have HK:=ze (fun h=>h8.o.keep hx hy h);have he:=ze (fun w=>ZU x y w);clear cp2 h0 hx hy hj;have i0:(0:Int)<=(c:Int):=by omega
    have i1:(c:Int)<=2*(k:Int)+2:=by omega
    have i2:(c:Int)<(n:Int):=by omega
    have i3:(0:Int)<=(m:Int):=by omega
    have i4:(m:Int)<(n:Int):=by omega
    go_upto_region 4 with fail
    go_cut [40] (fun s wx=>s=.bool (lt x y)/\Below wr.heap.size wr wx)
    case first=>
     go_region_held3 (fun w'=>w'.cell? ⟨p,2,none⟩=some (.slice (some ⟨g,0,none⟩) n cc2)/\w'.cell? ⟨g,c*3,none⟩=some (O J x.t)/\w'.cell? ⟨g,c*3+1,none⟩=some (O J x.k)/\w'.cell? ⟨g,c*3+2,none⟩=some (O J x.i)/\w'.cell? ⟨g,m*3,none⟩=some (O J y.t)/\w'.cell? ⟨g,m*3+1,none⟩=some (O J y.k)/\w'.cell? ⟨g,m*3+2,none⟩=some (O J y.i)/\Below wr.heap.size wr w')
      (first|(go_split_ands;exact⟨zf h4 ‹_›,zf h4 ‹_›,zf h4 ‹_›,zf h4 ‹_›,zf h4 ‹_›,zf h4 ‹_›,zf h4 ‹_›,(‹Below wr.heap.size wr _›).trans (h4.mono (‹Below wr.heap.size wr _›).size)⟩)|(exact⟨cp,x0,x1,x2,y0,y1,y2,fh.drew⟩))
      (first|(go_at_call 215;refine(he.o _).mono ?_;rintro e w4 ⟨rfl,h4⟩))
     all_goals(go_wp2_with fail;go_meet;exact⟨rfl,by go_split_ands;assumption⟩)
    case rest=>
     obtain⟨rfl,hg⟩:=hcut;have hq:=ze (h7.o.trans (hg.mono h7.o.size));cases ha:lt x y with
     |true=>
      have hf:=ze (HT.o ha);clear hg ha;go_wp2_with fail;go_roundw
      case rel=>exact⟨c,c+1,rfl,by go_num,by omega,by omega,hf.o,hq.o⟩
      case measure=>simp[intOf];omega
     |false=>
      have hf:=ze (HK.o ha);clear hg ha;go_wp2_with fail;go_roundw
      case rel=>exact⟨m,c+1,rfl,by go_num,by omega,by omega,hf.o,hq.o⟩
      case measure=>simp[intOf];omega
   ·have HE:=ze (show∀y,L'[m]?=some y->∀ c' z,(c'=k\/c'=2*k+1\/c'=2*k+2)->L'[c']?=some z->le y z from fun y hy c' z hD hz=>h8.o.2 y hy c' z (by have:=(qd.1 hz).1;rw[HL.o]at this;omega) hz);clear hj;go_upto_region 2 with fail
    go_cut [23] (fun s wx=>s=.bool false/\wx=wr)
    case first=>
     by_cases hM:c<=2*k+2
     ·have i1:(c:Int)<=2*(k:Int)+2:=by omega
      have i2:decide ((c:Int)<(n:Int))=false:=by simp;omega
      go_wp2_with fail
      go_meet
      exact⟨by simp;omega,rfl⟩
     ·have i1:decide ((c:Int)<=2*(k:Int)+2)=false:=by simp;omega
      go_wp2_with fail
      go_meet
      exact⟨rfl,rfl⟩
    case rest=>
     obtain⟨rfl,rfl⟩:=hcut;clear cp2 h8;by_cases hG:m=k
     ·subst hG;go_wp2_with fail
      (try simp only[Exit.inBlock,Exit.then]);refine bodyPost_ret (results_none rfl _ _ _) rfl ?_
      exact⟨rfl,L',h9.o,WA hr.o (fun c x y hc hx hy=>HE.o y hy c x (by omega) hx),hu.o,ht.o.then_ h7.o⟩
     ·have hI:((m:Int)==(k:Int))=false:=by simp;omega
      obtain⟨cc2,cp,h5,h6,h0⟩:=h9.o.at_ (by rw[HL.o];omega);rw[HL.o]at cp h5 h0;obtain⟨x,hx⟩:∃ x,L'[k]?=some x:=⟨_,kD (by rw[HL.o];omega)⟩;obtain⟨y,hy⟩:∃ y,L'[m]?=some y:=⟨_,kD (by rw[HL.o];omega)⟩;obtain⟨x0,x1,x2,f0,f1,f2⟩:=h0.ent_at HL.o hx;obtain⟨y0,y1,y2,g0,g1,g2⟩:=h0.ent_at HL.o hy;have HX:=ze hx;have HY:=ze hy;have i0:(0:Int)<=(k:Int):=by omega
      have i1:(k:Int)<(n:Int):=by omega
      have i3:(0:Int)<=(m:Int):=by omega
      have i4:(m:Int)<(n:Int):=by omega
      have hC:=ze (h9.o.swap hx hy).drew;have hB:=ze ((((((((Only.refl p g wc).set (a:=⟨g,k*3,none⟩) (.inr ⟨rfl,h6⟩) (O J y.t)).set (a:=⟨g,k*3+1,none⟩) (.inr ⟨rfl,h6⟩) (O J y.k)).set (a:=⟨g,k*3+2,none⟩) (.inr ⟨rfl,h6⟩) (O J y.i)).set (a:=⟨g,m*3,none⟩) (.inr ⟨rfl,h6⟩) (O J x.t)).set (a:=⟨g,m*3+1,none⟩) (.inr ⟨rfl,h6⟩) (O J x.k)).set (a:=⟨g,m*3+2,none⟩) (.inr ⟨rfl,h6⟩) (O J x.i)).drew);clear h0 hx hy;go_wp2_with fail;go_region;go_wp2_with fail;go_roundw
      case rel=>exact⟨m,sw L' k m x y,rfl,by omega,by omega,hC.o,YI hr.o hJ (by omega) HX.o HY.o (HE.o y HY.o k x (.inl rfl) HX.o) (fun c' z hD hz=>HE.o y HY.o c' z (by omega) hz),(Y3 HX.o HY.o (by omega)).trans hu.o,(ht.o.then_ h7.o).trans hB.o (.inl rfl)⟩
      case measure=>simp[intOf];omega
theorem co(p g n:Nat)(L:List En)(w:l6)(h:Hp w p g L)(hl:L.length=n)(hn:n<=4000000):
  Calls prog 216 #[.pointer (some ⟨p,2,none⟩)] w (fk (.tuple #[.agg #[O J (zA L).t,O J (zA L).k,O J (zA L).i],.bool (decide (0<n))]) w):=by
 have Hl:=ze hl;rcases ZW n with h0|h0
 ·obtain⟨A,c,cp,hc⟩:=h.sl;rw[hl,h0]at cp;rw[WB (by omega)];subst h0;have np:p<w.heap.size:=JG w _ cp;clear h hc hl
  go_in
  go_wp2_with fail
  go_returns
  exact⟨rfl,fh.alloc fi _⟩
 ·obtain⟨c,cp,hc,h5,h4⟩:=h.at_ (by omega);rw[hl]at cp hc h4;obtain⟨x0,x1,x2,-,-,-⟩:=h4.ent_at hl (ke (L:=L) (by omega));have h1:(0:Int)<(n:Int):=by omega
  have h2:((n:Int)==0)=false:=by simp;omega
  have h3:=ze h0;generalize zA L=x at*;have np:p<w.heap.size:=JG w _ cp;have ng:g<w.heap.size:=JG w _ x0;clear h hc hl h4 h0
  go_in
  go_wp2_with fail
  go_returns
  exact⟨by rw[decide_eq_true h3.o],fh.alloc fi _⟩
theorem g8(p g n:Nat)(L:List En)(w:l6)(h:Hp w p g L)(hh:jt L)(hl:L.length=n)(hn:n<=4000000):
  Calls prog 217 #[.pointer (some ⟨p,2,none⟩)] w fun e w'=>e=.returned (.tuple #[.agg #[O J (zA L).t,O J (zA L).k,O J (zA L).i],.bool (decide (0<n))])/\∃ L',Hp w' p g L'/\jt L'/\(n=0->L'=[])/\(0<n->L.Perm (zA L::L'))/\Only p g w w':=by
 have HP:=ze (fun W(hb:Below w.heap.size w W)=>co p g n L W (h.below hb) hl hn);have HH:=ze h;have HI:=ze hh;have Hl:=ze hl;rcases ZW n with h0|h0
 ·subst h0;have hL:L=[]:=yj hl;have hp:decide (0<0)=false:=by simp
  subst hL;clear h hh hl
  go_in
  go_wp2_with(go_at_call 216;refine(HP.o _ (fh.alloc fi _)).mono ?_;rintro e w1 ⟨rfl,h5⟩;obtain⟨r0,r1,r2,f0,f1,f2,hr⟩:=(Trio.new w 312 (O J 0) (O J 0) (O J 0)).below h5)
  (try simp only[Exit.inBlock,Exit.then])
  refine bodyPost_ret (by simp[results,Tryz.results217,go_sem,r0,r1,r2,f0,f1,f2,hr];try rfl) rfl ?_;have hB:=(((((((Below.refl w.heap.size w).alloc fi (.cells #[O J 0,O J 0,O J 0] 312)).trans (h5.mono (by simp))).setCell (p:=⟨w.heap.size,0,none⟩) fi (O J (zA []).t)).setCell (p:=⟨w.heap.size,1,none⟩) fi (O J (zA []).k)).setCell (p:=⟨w.heap.size,2,none⟩) fi (O J (zA []).i)).alloc (by simp;omega) (.cells #[O J (zA []).t,O J (zA []).k,O J (zA []).i] 312));exact⟨rfl,[],HH.o.below hB,HI.o,fun _=>rfl,fun h=>absurd h (by omega),Only.of_below hB⟩
 ·have hp:decide (0<n)=true:=by simpa using h0
  have H0:=ze h0;obtain⟨m,rfl⟩:∃ m,n=m+1:=⟨n-1,by omega⟩;have HX:=ze (ke (L:=L) (by omega));clear h hh hl h0;generalize zA L=x at*
  go_in
  go_upto_region 4 with(go_at_call 216;refine(HP.o _ (fh.alloc fi _)).mono ?_;rintro e w1 ⟨rfl,h5⟩;obtain⟨r0,r1,r2,f0,f1,f2,hr⟩:=(Trio.new w 312 (O J 0) (O J 0) (O J 0)).below h5);have hk:=((Below.refl w.heap.size w).alloc fi (.cells #[O J 0,O J 0,O J 0] 312)).trans (h5.mono (by simp));have he:=hk.alloc (Vq hr) (.cells #[O J x.t,O J x.k,O J x.i] 312);have hu:=ze he;have hE:=ze ((⟨r0,r1,r2,f0,f1,f2,hr⟩:Trio w1 w.heap.size (O J 0) (O J 0) (O J 0)).below (fh.alloc fi (.cells #[O J x.t,O J x.k,O J x.i] 312)));have hD:=ze (Trio.new w1 312 (O J x.t) (O J x.k) (O J x.i));have h6:=ze (HH.o.below he);have hI:=HH.o.gl;have hJ:p<w.heap.size:=by obtain⟨_,_,_,h3,_⟩:=HH.o;exact h3
  clear hk he h5 r0 r1 r2 f0 f1 f2 HP;generalize w1.alloc (.cells #[O J x.t,O J x.k,O J x.i] 312)=w2 at*;generalize w1.heap.size=q at*;have h4:=ze (show w.heap.size≠p/\w.heap.size≠g/\q≠p/\q≠g/\q≠w.heap.size/\w.heap.size<=q by omega);generalize hG:w.heap.size=r at*;obtain⟨c,cp,hc,hg,h1⟩:=h6.o.at_ (by rw[Hl.o];omega);rw[Hl.o]at cp hc h1;have fp:w2.frozen? ⟨p,2,none⟩=false:=by obtain⟨_,_,h2,_⟩:=h6.o;exact h2
  obtain⟨z,hz⟩:∃ z,L[m]?=some z:=⟨_,kD (by rw[Hl.o];omega)⟩;obtain⟨x0,x1,x2,f0,f1,f2⟩:=h1.ent_at Hl.o HX.o;obtain⟨z0,z1,z2,-,-,-⟩:=h1.ent_at Hl.o hz;have HZ:=ze hz;have i0:(0:Int)<=(m:Int):=by omega
  have i1:(m:Int)<(m:Int)+1:=by omega
  obtain⟨l1,l2,l3⟩:=YJ Hl.o HX.o HZ.o HI.o;have h7:=ze (h6.o.set0 HX.o z).drew;have hi:=ze (((((Only.refl p g w2).set (a:=⟨g,0,none⟩) (.inr ⟨rfl,hg⟩) (O J z.t)).set (a:=⟨g,1,none⟩) (.inr ⟨rfl,hg⟩) (O J z.k)).set (a:=⟨g,2,none⟩) (.inr ⟨rfl,hg⟩) (O J z.i)).drew);have L1:=ze l1;have L2:=ze l2;have L3:=ze l3;clear h1 hz l1 l2 l3 cp fp hc;obtain⟨c3,cp3,hF,_,_⟩:=h6.o.at_ (by rw[Hl.o];omega);rw[Hl.o]at cp3 hF;go_wp2_with fail;go_region;generalize((((w2.setCell ⟨g,0,none⟩ (O J z.t)).setCell ⟨g,1,none⟩ (O J z.k)).setCell ⟨g,2,none⟩ (O J z.i)).drew)=w3 at*;clear cp3 x0 x1 x2 z0 z1 z2 f0 f1 f2;have h8:(L.set 0 z).length=m+1:=by rw[ye];exact Hl.o
  obtain⟨c,cp,hc,_,_⟩:=h7.o.at_ (by rw[h8];omega);have hj:=ze (h7.o.cut (n:=m) cp (by rw[h8];omega));rw[h8]at cp hc;have fp:w3.frozen? ⟨p,2,none⟩=false:=by obtain⟨_,_,h2,_⟩:=h7.o;exact h2
  have hA:=ze (hi.o.set (a:=⟨p,2,none⟩) (.inl rfl) (.slice (some ⟨g,0,none⟩) m c));have hf:=gy p g 0 0 m ((L.set 0 z).take m) _ hj.o (Vz L2.o) fi L1.o (by omega) (by omega);rw[show((0:Nat):Int)=0 from rfl]at hf;have hv:=ze hf;clear hf;clear h8;generalize(L.set 0 z).take m=N at*;clear hj h7 hi;go_wp2_with(go_at_call 244;refine(hv.o).mono ?_;rintro e w5 ⟨rfl,L5,ht,ho,hq,hs⟩;have hd:=ze (hA.o.trans hs (.inl rfl));obtain⟨r0,r1,r2,rf0,rf1,rf2,hP⟩:=hE.o.only hd.o h4.o.1 h4.o.2.1;obtain⟨q0,q1,q2,qf0,qf1,qf2,hO⟩:=hD.o.only hd.o h4.o.2.2.1 h4.o.2.2.2.1;have hC:=ze ht;have hw:=ze ho;have hy:=ze hq;clear ht ho hq hs)
  (try simp only[Exit.inBlock,Exit.then])
  refine bodyPost_ret (by simp[results,Tryz.results217,go_sem, *];try rfl) rfl ?_;have ha:=h4.o.1;have h9:=h4.o.2.1;have hM:(⟨r,0,none⟩:Addr).block≠p:=ha;have hN:(⟨r,0,none⟩:Addr).block≠g:=h9;refine⟨by rw[hp],L5,((hC.o.setOther (a:=⟨r,0,none⟩) ha h9 _).setOther (a:=⟨r,1,none⟩) ha h9 _).setOther (a:=⟨r,2,none⟩) ha h9 _,hw.o,fun h=>absurd h (by omega),fun _=>L3.o.trans ((List.perm_cons x).2 hy.o.symm),?_⟩;have hm:=hu.o;rw[<-hG]at hm;exact((((Only.of_below hm).trans hd.o (.inl rfl)).setNew (a:=⟨r,0,none⟩) (by simp;omega) _).setNew (a:=⟨r,1,none⟩) (by simp;omega) _).setNew (a:=⟨r,2,none⟩) (by simp;omega) _
theorem fT(p g n:Nat)(L:List En)(a:En)(w:l6)(h:Hp w p g L)(hh:jt L)(hl:L.length=n)(hn:n<=4000000):
  Calls prog 179 #[.pointer (some ⟨p,2,none⟩),.agg #[O J a.t,O J a.k,O J a.i]] w fun e w'=>e=.returned (.tuple #[])/\∃ g' L',Hp w' p g' L'/\jt L'/\L'.Perm (a::L)/\Only p g w w'/\(g'=g\/w.heap.size<=g'):=by
 have HH:=ze h;have HI:=ze hh;have Hl:=ze hl;have hT:p<w.heap.size:=by obtain⟨_,_,_,h3,_⟩:=h;exact h3
 clear h hh hl
 go_in
 go_upto_region 1 with fail;have he:=ze ((Below.refl w.heap.size w).alloc fi (.cells #[O J a.t,O J a.k,O J a.i] 312));have HR:=ze (Trio.new w 312 (O J a.t) (O J a.k) (O J a.i));have HP:=ze (HH.o.below he.o);generalize hr:w.heap.size=r at*;generalize w.alloc (.cells #[O J a.t,O J a.k,O J a.i] 312)=w0 at*;obtain⟨v,cp,fp,ht,h5,hv⟩:=HP.o.parts;rw[Hl.o]at h5;obtain⟨r0,r1,r2,f0,f1,f2,hR⟩:=HR.o;have HO:=ze h5;have HV:=ze hv;have CP:=ze cp;have FP:=ze fp;clear h5 hv;obtain⟨inf,h6⟩:∃ i,Hz (prog.info? 312=some i/\i.zero=some (.agg #[O J 0,O J 0,O J 0])/\i.size=3/\i.bytes=24):=by
  obtain⟨i,h1,h2,h3,h4⟩:=info_parts Ent.info;exact⟨i,h1,h2,h3,h4⟩
 go_cut [] (fun wx=>∃ g',Hp wx p g' (L++[a])/\Only p g w0 wx/\(g'=g\/r<=g'))
 case first=>
  go_region_law (first|(refine step_append_lies _ rfl _ _ 252 rfl 0 312 inf _ 3 24 underlying252 h6.o.1 h6.o.2.1 h6.o.2.2.1 h6.o.2.2.2 rfl (by omega) v n (L.flatMap ZT) rfl ((HO.o.drew).alloc _) ⟨_,0,none⟩ 1 1 (ZT a) rfl rfl ?_ (by simp[Value.oneCell']) (by omega) (by simp only[maxLen];omega) (by omega) (vf _) _ rfl ?_;(exact aq _ _ _ _ _ _ rfl);intro g' cap w1 k1 k2 k3 k4;have hb:=(Below.refl w0.heap.size w0).drew.alloc fi (.cells #[O J a.t,O J a.k,O J a.i] 312);obtain⟨j1,j2,j3,j4,j5⟩:=Hp.pushed (kK ht hb.size) (zf hb CP.o) ((hb.frozen ht).trans FP.o) HV.o Hl.o k1 k2 k3 k4;have J1:=ze j1;have J2:=ze ((Only.of_below hb).trans j2 (.inl rfl));clear k1 k2 j1 j2))
  all_goals(go_wp2_with fail;go_meet;exact⟨g',J1.o,J2.o,(by rcases j3 with j|j;exact .inl j;right;simp at j;omega)⟩)
 case rest=>
  obtain⟨g',hu,hE,hD⟩:=hcut;have ha:=ze hD;have hz:=ze ((Only.of_below (p:=p) (g:=g) (by rw[<-hr]at*;exact he.o)).trans hE (.inl rfl));have HU:=ze (Wy HI.o a);rw[Hl.o]at HU;have hq:(L++[a]).length=n+1:=by simp[Hl.o]
  have hA:=ze (show(L++[a]).Perm (a::L)from List.perm_append_comm (l₁:=L) (l₂:=[a]));have hJ:=ze hu;obtain⟨c1,cp1,hC,hp,_⟩:=hu.at_ (by omega);rw[hq]at cp1 hC;have hI:=ze hq;clear HO HV CP FP HP HH HI HR he cp fp r0 r1 r2 f0 f1 f2 hu hE hD hq h6 Hl ht hR;generalize L++[a]=L1 at*;go_wp2_with fail
  go_loopw [4] (fun si wr=>∃(k:Nat)(L':List En),si=O J k/\k<=n/\Hp wr p g' L'/\Up L' k/\L'.Perm L1/\Only p g' wc wr) (fun si _=>(intOf si).toNat)
  case atStart=>exact⟨n,L1,by go_num,fi,hJ.o,HU.o,iV _,Only.refl _ _ _⟩
  case round=>
   obtain⟨k,L',rfl,hk,hs,hG,hw,hF⟩:=hrel;have hl':=hw.length_eq.trans hI.o;have HL:=ze hl';have HP:=ze hs;have ho:=ze hG;have HM:=ze hw;have hm:=ze hF;clear hG hw hF hl' cp1 hC hp;by_cases hP:k=0
   ·subst hP;go_wp2_with fail;go_quiet(fail);go_wp2_with fail;go_end0;have hB:∀ q,Below wr.heap.size wr (wr.drewN q):=fun q=>⟨rfl,rfl,rfl,fi,fun _ _=>rfl⟩
    refine⟨rfl,g',L',HP.o.below (hB _),Wz ho.o (.inl rfl),HM.o.trans hA.o,(hz.o.trans hm.o ?_).then_ (hB _),?_⟩
    ·rw[hr];exact ha.o
    ·rw[hr];exact ha.o
   ·obtain⟨cc,cp,hO,h9,h5⟩:=hs.at_ (by rw[HL.o];omega);rw[HL.o]at cp hO h5;obtain⟨j,hj⟩:∃ j,j=(k-1)/2:=⟨_,rfl⟩;obtain⟨x,hx⟩:∃ x,L'[k]?=some x:=⟨_,kD (by rw[HL.o];omega)⟩;obtain⟨y,hy⟩:∃ y,L'[j]?=some y:=⟨_,kD (by rw[HL.o];omega)⟩;obtain⟨x0,x1,x2,f0,f1,f2⟩:=h5.ent_at HL.o hx;obtain⟨y0,y1,y2,e0,e1,e2⟩:=h5.ent_at HL.o hy;have HX:=ze hx;have HY:=ze hy;have HJ:=ze hj;have hg:=ze (fun w=>ZU x y w);have q0:(0:Int)<(k:Int):=by omega
    have q0n:0<k:=by omega
    have q1:(k:Int)<(n:Int)+1:=by omega
    have q2:((k:Int)-1).tdiv 2=(j:Int):=by rw[dT (by omega)];omega
    have q3:(j:Int)<(n:Int)+1:=by omega
    have hS:¬ j=k:=by omega
    have hQ:¬ k=j:=by omega
    have q4:IntKind.i64.wrap ((k:Int)-1)=(k:Int)-1:=ae _ (by omega);have q5:IntKind.i64.wrap (j:Int)=(j:Int):=ae _ (by omega);clear h5 hx hy hj hs;go_upto_region 3 with fail
    go_cut [41] (fun s wx=>s=.bool (lt x y)/\Below wr.heap.size wr wx)
    case first=>
     go_region_held3 (fun w'=>w'.cell? ⟨p,2,none⟩=some (.slice (some ⟨g',0,none⟩) (n+1) cc)/\w'.cell? ⟨g',k*3,none⟩=some (O J x.t)/\w'.cell? ⟨g',k*3+1,none⟩=some (O J x.k)/\w'.cell? ⟨g',k*3+2,none⟩=some (O J x.i)/\w'.cell? ⟨g',j*3,none⟩=some (O J y.t)/\w'.cell? ⟨g',j*3+1,none⟩=some (O J y.k)/\w'.cell? ⟨g',j*3+2,none⟩=some (O J y.i)/\Below wr.heap.size wr w')
      (first|(go_split_ands;exact⟨zf h7 ‹_›,zf h7 ‹_›,zf h7 ‹_›,zf h7 ‹_›,zf h7 ‹_›,zf h7 ‹_›,zf h7 ‹_›,(‹Below wr.heap.size wr _›).trans (h7.mono (‹Below wr.heap.size wr _›).size)⟩)|(exact⟨cp,x0,x1,x2,y0,y1,y2,fh.drew⟩))
      (first|(go_at_call 215;refine(hg.o _).mono ?_;rintro e w4 ⟨rfl,h7⟩))
     all_goals(go_wp2_with fail;go_meet;exact⟨rfl,by go_split_ands;assumption⟩)
    case rest=>
     obtain⟨rfl,h0⟩:=hcut;have hf:=ze h0;cases hc:lt x y with
     |false=>
      have hi:=ze hc;clear h0 hc cp x0 x1 x2 y0 y1 y2 f0 f1 f2 e0 e1 e2;go_wp2_with fail;go_end0;refine⟨rfl,g',L',HP.o.below hf.o,Wz ho.o (.inr ?_),HM.o.trans hA.o,(hz.o.trans hm.o ?_).then_ hf.o,?_⟩
      ·intro x' y' hx' hd;rw[<-HJ.o,HY.o]at hd;rw[HX.o]at hx';injection hx' with hx';injection hd with hd;subst hx';subst hd;exact hi.o
      ·rw[hr];exact ha.o
      ·rw[hr];exact ha.o
     |true=>
      have hi:=ze hc;have hL:=ze (HP.o.below h0);have cp':=zf h0 cp;have x0':=zf h0 x0;have x1':=zf h0 x1;have x2':=zf h0 x2;have y0':=zf h0 y0;have y1':=zf h0 y1;have y2':=zf h0 y2;have h8:=JG wr _ x0;have f0':=(h0.frozen (p:=⟨g',k*3,none⟩) h8).trans f0;have f1':=(h0.frozen (p:=⟨g',k*3+1,none⟩) h8).trans f1;have f2':=(h0.frozen (p:=⟨g',k*3+2,none⟩) h8).trans f2;have e0':=(h0.frozen (p:=⟨g',j*3,none⟩) h8).trans e0;have e1':=(h0.frozen (p:=⟨g',j*3+1,none⟩) h8).trans e1;have e2':=(h0.frozen (p:=⟨g',j*3+2,none⟩) h8).trans e2;clear h0 hc cp x0 x1 x2 y0 y1 y2 f0 f1 f2 e0 e1 e2 h8;have hN:=ze (hL.o.swap HX.o HY.o).drew;have hM:=ze ((((((((Only.refl p g' wc).set (a:=⟨g',k*3,none⟩) (.inr ⟨rfl,h9⟩) (O J y.t)).set (a:=⟨g',k*3+1,none⟩) (.inr ⟨rfl,h9⟩) (O J y.k)).set (a:=⟨g',k*3+2,none⟩) (.inr ⟨rfl,h9⟩) (O J y.i)).set (a:=⟨g',j*3,none⟩) (.inr ⟨rfl,h9⟩) (O J x.t)).set (a:=⟨g',j*3+1,none⟩) (.inr ⟨rfl,h9⟩) (O J x.k)).set (a:=⟨g',j*3+2,none⟩) (.inr ⟨rfl,h9⟩) (O J x.i)).drew);go_wp2_with fail;go_region;go_wp2_with fail;go_roundw
      case rel=>exact⟨j,sw L' k j x y,rfl,by have:=HJ.o;omega,hN.o,ap ho.o q0n HJ.o HX.o HY.o hi.o,(Y3 HX.o HY.o (by have:=HJ.o;omega)).trans HM.o,(hm.o.then_ hf.o).trans hM.o (.inl rfl)⟩
      case measure=>simp[intOf];have:=HJ.o;omega
end
end Go.Proofs.YtdeogmbfgkepeaaGreatDoor
