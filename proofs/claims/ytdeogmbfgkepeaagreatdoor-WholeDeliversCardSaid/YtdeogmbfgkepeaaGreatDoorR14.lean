/- Contracts for WholeDelivers. -/
import Derived.Test.YtdeogmbfgkepeaaGreatDoorR12
import Derived.Test.YtdeogmbfgkepeaaGreatDoorR13
set_option linter.unusedVariables false
set_option linter.unusedSimpArgs false
set_option maxRecDepth 100000
set_option maxHeartbeats 64000000
namespace Go.Proofs.YtdeogmbfgkepeaaGreatDoor
open Go.Proofs.Tryz
open Go.Value renaming int->O
open Go.IntKind renaming i64->J
section
open Go.RowKit HB HeapP Go.Maps CalP
namespace HB
structure But(X:Nat->Prop)(w w':l6):Prop where
 os:w'.os=w.os
 tape:w'.tape=w.tape
 output:w'.output=w.output
 size:w.heap.size<=w'.heap.size
 block:∀ k,k<w.heap.size->¬ X k->w'.heap[k]?=w.heap[k]?
section
variable{X Y:Nat->Prop}{w w1 w':l6}{p g B:Nat}{m row:Option Nat}
theorem But.refl(X:Nat->Prop)(w:l6):But X w w:=⟨rfl,rfl,rfl,fi,fun _ _ _=>rfl⟩
theorem But.trans(h:But X w w1)(k:But Y w1 w')(hs:∀ i,i<w.heap.size->Y i->X i):But X w w':=
 ⟨k.os.trans h.os,k.tape.trans h.tape,k.output.trans h.output,vD h.size k.size,fun i hi hx=>(k.block i (by have:=h.size;omega) (fun hy=>hx (hs i hi hy))).trans (h.block i hi hx)⟩
theorem But.of_below(h:fj w w'):But X w w':=⟨h.os,h.tape,h.output,h.size,fun k hk _=>h.block k hk⟩
theorem But.then_(h:But X w w1)(hb:fj w1 w'):But X w w':=h.trans (Y:=X) (But.of_below hb) (fun _ _ h=>h)
theorem But.of_grown(h:w.grownBy w' row)(hx:∀ k,row=some k->X k):But X w w':=⟨h.os,h.tape,h.output,h.size,fun k hk h1=>h.block k hk (fun h2=>h1 (hx k h2.symm))⟩
theorem But.grown(h:But X w w1)(hg:w1.grownBy w' row)(hx:∀ k,row=some k->k<w.heap.size->X k):But X w w':=
 h.trans (Y:=fun k=>row=some k) (But.of_grown hg fun _ h=>h) (fun i hi hy=>hx i hy hi)
theorem But.of_only(h:Only p g w w')(hp:X p)(hg:X g):But X w w':=
 ⟨h.os,h.tape,h.output,h.size,fun k hk h1=>h.block k hk (fun e=>h1 (e▸hp)) (fun e=>h1 (e▸hg))⟩
theorem But.set(h:But X w w'){a:Addr}(ha:X a.block\/w.heap.size<=a.block)(u:Value):But X w (w'.setCell a u):=
 ⟨h.os,h.tape,h.output,by have:=h.size;simpa using this,fun k hk h1=>by
  rw[QO _ _ _ _ (by
   intro e;subst e;rcases ha with h2|h2
   ·exact h1 h2
   ·omega)]
  exact h.block k hk h1⟩
theorem But.below(h:But X w w')(hX:∀ k,X k->B<=k)(hB:B<=w.heap.size):Below B w w':=
 ⟨h.os,h.tape,h.output,h.size,fun k hk=>h.block k (by omega) (fun h1=>by have:=hX k h1;omega)⟩
theorem But.mono(h:But X w w')(hs:∀ i,i<w.heap.size->X i->Y i):But Y w w':=
 ⟨h.os,h.tape,h.output,h.size,fun i hi hy=>h.block i hi (fun hx=>hy (hs i hi hx))⟩
theorem But.cell(h:But X w w'){a:Addr}{u:Value}(hc:w.cell? a=some u)(hx:¬ X a.block):w'.cell? a=some u:=by
 have hk:=JG w a hc;have:=h.block a.block hk hx;unfold World.cell? at*;rw[this];exact hc
def RdB(w:l6)(X:Nat->Prop)(A:iX)(n:Nat)(l:List En):Prop:=Rd w w.heap.size 3 A n (l.flatMap ZT)/\(0<n->∀ a,A=some a->¬ X a.block)
theorem RdB.but{A:iX}{n:Nat}{l:List En}(h:RdB w X A n l)(ho:But X w w')(hg:∀ i,i<w.heap.size->Y i->X i):RdB w' Y A n l:=by
 obtain⟨⟨h1,h2⟩,h3⟩:=h;refine⟨⟨h1,fun hn=>?_⟩,fun hn a ha=>?_⟩
 ·obtain⟨b,off,rfl,hb,hc⟩:=h2 hn;have:=h3 hn _ rfl;exact⟨b,off,rfl,kK hb ho.size,fun j u hu=>ho.cell (a:=⟨b,off+j,none⟩) (hc j u hu) this⟩
 ·obtain⟨b,off,hA,hb,hc⟩:=h2 hn;have:=h3 hn _ ha;rw[hA]at ha;injection ha with ha;subst ha;exact fun hy=>this (hg _ hb hy)
theorem RdB.fresh{A:iX}{base c:Nat}{e:TypeId}{l:List En}(h:Own w base e 3 ZT (.slice A l.length c) l)(hX:∀ k,base<=k->¬ X k):RdB w X A l.length l:=by
 refine⟨Rd.own h.row,fun hn a ha=>?_⟩;subst ha;obtain⟨b,cap,hv,hb,_⟩:=h.at_ hn;simp only[We,Gv]at hv;obtain⟨rfl,_⟩:=hv;exact hX _ hb
theorem RdB.cut{A:iX}{n:Nat}{l:List En}(h:RdB w X A n l){k cap:Nat}(hk:k<=n)(hc:n<=cap):RdB w X (if cap=k then A else A.map (·.add (k*3))) (n-k) (l.drop k):=by
 refine⟨by have:=h.1.cut hk hc;rwa [qm jD]at this,fun hn a ha=>?_⟩;have h2:0<n:=by omega
 rw[if_neg (by omega)]at ha;cases A with
 |none=>cases ha
 |some ad=>
  simp only[Option.map_some,Gv]at ha;subst ha;have:=h.2 h2 _ rfl;have hb:(ad.add (k*3)).block=ad.block:=by unfold Addr.add;split<;>rfl
  rw[hb];exact this
end
end HB
namespace CalP
def Xb(p g:Nat)(m:Option Nat)(k:Nat):Prop:=k=p\/k=g\/m=some k
abbrev Fr:=Nat->Option Value×Bool
structure Cs(w:l6)(p:Nat)(F:Fr)(g:Nat)(m:Option Nat)(n:Nat)(L l:List En):Prop where
 hp:Hp w p g L
 mc:w.cell? ⟨p,3,none⟩=some (.map m)
 mf:w.frozen? ⟨p,3,none⟩=false
 ch:Ch L l
 mp:Mp w m n l
 ne:∀ b,m=some b->b≠p/\b≠g
 re:∀ o,o≠2->o≠3->w.cell? ⟨p,o,none⟩=(F o).1/\w.frozen? ⟨p,o,none⟩=(F o).2
section
variable{w w':l6}{p g n:Nat}{F:Fr}{m:Option Nat}{L l:List En}
theorem Cs.pl(h:Cs w p F g m n L l):p<w.heap.size:=h.hp.pl
theorem Cs.below(h:Cs w p F g m n L l)(hb:fj w w'):Cs w' p F g m n L l:=
 ⟨h.hp.below hb,zf hb h.mc,(hb.frozen (p:=⟨p,3,none⟩) h.pl).trans h.mf,h.ch,h.mp.below hb,h.ne,fun o h1 h2=>⟨(hb.cell (p:=⟨p,o,none⟩) h.pl).trans (h.re o h1 h2).1,(hb.frozen (p:=⟨p,o,none⟩) h.pl).trans (h.re o h1 h2).2⟩⟩
theorem Cs.xlt(h:Cs w p F g m n L l){k:Nat}(hk:Xb p g m k):k<w.heap.size:=by
 rcases hk with rfl|rfl|hk
 ·exact h.pl
 ·exact h.hp.gl
 ·exact h.mp.lt hk
theorem Cs.mapped{n':Nat}{l':List En}(h:Cs w p F g m n L l)(hg:w.grownBy w' m)(hmp:Mp w' m n' l')(hch:Ch L l'):Cs w' p F g m n' L l':=by
 have hp:some p≠m:=fun e=>(h.ne p e.symm).1 rfl
 have h0:some g≠m:=fun e=>(h.ne g e.symm).2 rfl
 have hb:=hg.block p h.pl hp;exact⟨h.hp.grown hg hp h0,(vg (a:=⟨p,3,none⟩) hb).trans h.mc,(xC (a:=⟨p,3,none⟩) hb).trans h.mf,hch,hmp,h.ne,fun o h1 h2=>⟨(vg (a:=⟨p,o,none⟩) hb).trans (h.re o h1 h2).1,(xC (a:=⟨p,o,none⟩) hb).trans (h.re o h1 h2).2⟩⟩
end
end CalP
theorem kh(k i:Int)(w:l6):Calls prog 178 #[O J k,O J i] w (fk (.agg #[O J k,O J i]) w):=by
 go_in
 go_wp2_with fail
 go_returns
 exact⟨rfl,fh.alloc fi _⟩
def Told(l:List En)(k i c:Int)(ok:Bool):Prop:=(ok=true/\∃ e∈l,e.k=k/\e.i=i/\e.t=c)\/(ok=false/\c=0/\∀ e∈l,¬(e.k=k/\e.i=i))
theorem CalP.Told.fun_{l:List En}(hu:Uq l){k i c c':Int}{ok ok':Bool}(h:Told l k i c ok)(h':Told l k i c' ok'):c=c'/\ok=ok':=by
 rcases h with⟨rfl,e,he,h1,h2,h3⟩|⟨rfl,rfl,h1⟩<;>rcases h' with⟨rfl,e',he',h0,h2',h4⟩|⟨rfl,rfl,h0⟩
 ·have:=hu.same he he' (by rw[h1,h0]) (by rw[h2,h2']);subst this;exact⟨h3.symm.trans h4,rfl⟩
 ·exact absurd ⟨h1,h2⟩ (h0 e he)
 ·exact absurd ⟨h0,h2'⟩ (h1 e' he')
 ·exact⟨rfl,rfl⟩
theorem CalP.Cs.look{w:l6}{p g n:Nat}{F:Fr}{m:Option Nat}{L l:List En}(h:Cs w p F g m n L l){k i:Int}(hk:jX k)(hi:jX i):
  ∃c ok,Told l k i c ok/\∀ w',fj w w'->(Instr.lookup MT (.map m) (.agg #[O J k,O J i]) true).run prog w'=.ok (.tuple #[O J c,.bool ok]) w':=by
 obtain⟨c,ok,-,hT⟩:=h.mp.look h.ch.uq hk hi;refine⟨c,ok,hT,fun w' hb=>?_⟩;obtain⟨c',ok',h0,h1⟩:=(h.mp.below hb).look h.ch.uq hk hi;obtain⟨rfl,rfl⟩:=Told.fun_ h.ch.uq hT h1;exact h0
theorem WE{F:Fr}(p g n:Nat)(m:Option Nat)(L l:List En)(k i:Int)(w:l6)(h:Cs w p F g m n L l)(hk:jX k)(hi:jX i):
  Calls prog 246 #[.pointer (some ⟨p,2,none⟩),O J k,O J i] w fun e w'=>(∃c ok,e=.returned (.bool ok)/\Told l k i c ok)/\Cs w' p F g m n L (wo l k i)/\But (Xb p g m) w w':=by
 have c1:=h.mc;obtain⟨c,ok,hT,h2⟩:=h.look hk hi;have HT:=ze hT;have HR:=ze h2;have HC:=ze h;clear h hT h2
 go_in
 go_wp2_with fail
 go_region_held3 (fun w'=>w'.cell? ⟨p,3,none⟩=some (.map m)/\(Instr.lookup 143 (.map m) (.agg #[O J k,O J i]) true).run prog w'=.ok (.tuple #[O J c,.bool ok]) w'/\fj w w')
  (first|(go_split_ands;exact⟨zf h3 ‹_›,HR.o _ ((‹fj w _›).trans (h3.mono (‹fj w _›).size)),(‹fj w _›).trans (h3.mono (‹fj w _›).size)⟩)|(exact⟨c1,HR.o _ fh.drew,fh.drew⟩)|(go_split_ands;exact⟨‹_›,‹_›,‹_›⟩))
  (first|(go_at_call 178;refine(kh k i _).mono ?_;rintro e w4 ⟨rfl,h3⟩))
 go_wp2_with fail;have HB:=ze (show fj w w4 from by go_split_ands;assumption);have c4:w4.cell? ⟨p,3,none⟩=some (.map m):=by go_split_ands;assumption
 go_region_with (go_at_call 178;refine(kh k i _).mono ?_;rintro e w5 ⟨rfl,h6⟩;have hb:=HB.o.drew.trans (h6.mono HB.o.size);obtain⟨w6,h7,h1,h0⟩:=(HC.o.mp.below hb).drop HC.o.ch.uq HC.o.ch.wfl hk hi 0;have c5:=zf hb HC.o.mc;have h8:=ze h1;have h5:=ze h0;have h4:=ze hb;clear h1 h0 hb h6)
 all_goals
  go_wp2_with fail;go_ret;exact⟨⟨c,ok,rfl,HT.o⟩,(HC.o.below h4.o).mapped h5.o h8.o (HC.o.ch.drop k i),(But.of_below h4.o).grown h5.o (fun q hq _=>.inr (.inr hq))⟩
end
section
namespace HB
open Go.RowKit
def Bx(w:l6)(q:Nat)(l:iZ):Prop:=∀ j u,l[j]?=some u->w.cell? ⟨q,j,none⟩=some u/\w.frozen? ⟨q,j,none⟩=false
section
variable{w w':l6}{q D:Nat}{l:iZ}
theorem Bx.new(w:l6)(l:iZ)(ty:TypeId):Bx (w.alloc (.cells l.toArray ty)) w.heap.size l:=fun j u hu=>
 ⟨by rw[cell_of_row _ w.heap.size j l.toArray ty (0,0) (heap_alloc_new w _)];simpa using hu,World.frozen?_alloc_at _ _ _ _ rfl⟩
theorem Bx.below(h:Bx w q l)(hb:Below D w w')(hq:q<D):Bx w' q l:=fun j u hu=>
 ⟨(hb.cell (p:=⟨q,j,none⟩) hq).trans (h j u hu).1,(hb.frozen (p:=⟨q,j,none⟩) hq).trans (h j u hu).2⟩
theorem Bx.block(h:Bx w q l)(hb:w'.heap[q]?=w.heap[q]?):Bx w' q l:=fun j u hu=>
 ⟨(vg (a:=⟨q,j,none⟩) hb).trans (h j u hu).1,(xC (a:=⟨q,j,none⟩) hb).trans (h j u hu).2⟩
theorem Bx.lt(h:Bx w q l)(hl:0<l.length):q<w.heap.size:=JG w ⟨q,0,none⟩ (h 0 _ (kD hl)).1
theorem Bx.but{X:Nat->Prop}(h:Bx w q l)(hb:But X w w')(hq:q<w.heap.size)(hx:¬ X q):Bx w' q l:=h.block (hb.block q hq hx)
theorem Bx.drew(h:Bx w q l):Bx w.drew q l:=h
theorem Bx.drewN(h:Bx w q l)(n:Nat):Bx (w.drewN n) q l:=h
theorem Bx.alloc(h:Bx w q l)(hl:0<l.length)(o:Obj):Bx (w.alloc o) q l:=h.below (fh.alloc fi o) (h.lt hl)
theorem Bx.setOther(h:Bx w q l){a:Addr}(ha:a.block≠q)(u:Value):Bx (w.setCell a u) q l:=h.block (QO _ _ _ _ (fun e=>ha e.symm))
theorem Bx.set(h:Bx w q l)(i:Nat)(v:Value):Bx (w.setCell ⟨q,i,none⟩ v) q (l.set i v):=fun j u hu=>by
 rw[yD];by_cases hj:i=j
 ·subst hj;rw[vt]at hu;split at hu
  ·split at hu
   ·rename_i hl;cases hu;have:=h i _ (kD hl);exact⟨KO _ _ _ this.1,this.2⟩
   ·cases hu
  ·rename_i hn;exact absurd rfl hn
 ·rw[List.getElem?_set_ne hj]at hu;have:=h j u hu;exact⟨(Zm w _ _ _ (by intro e;injection e with _ e _;omega)).trans this.1,this.2⟩
theorem Bx.two(w:l6)(l m:iZ)(ty ty':TypeId)(hl:0<l.length):Bx ((w.alloc (.cells l.toArray ty)).alloc (.cells m.toArray ty')) w.heap.size l/\Bx ((w.alloc (.cells l.toArray ty)).alloc (.cells m.toArray ty')) (w.heap.size+1) m:=by
 have hz:(w.alloc (.cells l.toArray ty)).heap.size=w.heap.size+1:=by simp
 refine⟨(Bx.new w l ty).alloc hl _,?_⟩;have:=Bx.new (w.alloc (.cells l.toArray ty)) m ty'
 rwa [hz]at this
theorem Bx.at_size{w:l6}{l:iZ}{ty:TypeId}{q:Nat}(hq:w.heap.size=q):Bx (w.alloc (.cells l.toArray ty)) q l:=hq▸Bx.new w l ty
end
theorem Bx.o1{w:l6}{q:Nat}{v0:Value}(h:Bx w q [v0]):(w.cell? ⟨q,0,none⟩=some v0)/\(w.frozen? ⟨q,0,none⟩=false):=
 ⟨(h 0 _ rfl).1,(h 0 _ rfl).2⟩
theorem Bx.o2{w:l6}{q:Nat}{v0 v1:Value}(h:Bx w q [v0,v1]):(w.cell? ⟨q,0,none⟩=some v0/\w.cell? ⟨q,1,none⟩=some v1)/\(w.frozen? ⟨q,0,none⟩=false/\w.frozen? ⟨q,1,none⟩=false):=
 ⟨⟨(h 0 _ rfl).1,(h 1 _ rfl).1⟩,⟨(h 0 _ rfl).2,(h 1 _ rfl).2⟩⟩
theorem Bx.o3{w:l6}{q:Nat}{v0 v1 v2:Value}(h:Bx w q [v0,v1,v2]):(w.cell? ⟨q,0,none⟩=some v0/\w.cell? ⟨q,1,none⟩=some v1/\w.cell? ⟨q,2,none⟩=some v2)/\(w.frozen? ⟨q,0,none⟩=false/\w.frozen? ⟨q,1,none⟩=false/\w.frozen? ⟨q,2,none⟩=false):=
 ⟨⟨(h 0 _ rfl).1,(h 1 _ rfl).1,(h 2 _ rfl).1⟩,⟨(h 0 _ rfl).2,(h 1 _ rfl).2,(h 2 _ rfl).2⟩⟩
theorem Bx.o4{w:l6}{q:Nat}{v0 v1 v2 v3:Value}(h:Bx w q [v0,v1,v2,v3]):(w.cell? ⟨q,0,none⟩=some v0/\w.cell? ⟨q,1,none⟩=some v1/\w.cell? ⟨q,2,none⟩=some v2/\w.cell? ⟨q,3,none⟩=some v3)/\(w.frozen? ⟨q,0,none⟩=false/\w.frozen? ⟨q,1,none⟩=false/\w.frozen? ⟨q,2,none⟩=false/\w.frozen? ⟨q,3,none⟩=false):=
 ⟨⟨(h 0 _ rfl).1,(h 1 _ rfl).1,(h 2 _ rfl).1,(h 3 _ rfl).1⟩,⟨(h 0 _ rfl).2,(h 1 _ rfl).2,(h 2 _ rfl).2,(h 3 _ rfl).2⟩⟩
theorem Bx.o5{w:l6}{q:Nat}{v0 v1 v2 v3 v4:Value}(h:Bx w q [v0,v1,v2,v3,v4]):(w.cell? ⟨q,0,none⟩=some v0/\w.cell? ⟨q,1,none⟩=some v1/\w.cell? ⟨q,2,none⟩=some v2/\w.cell? ⟨q,3,none⟩=some v3/\w.cell? ⟨q,4,none⟩=some v4)/\(w.frozen? ⟨q,0,none⟩=false/\w.frozen? ⟨q,1,none⟩=false/\w.frozen? ⟨q,2,none⟩=false/\w.frozen? ⟨q,3,none⟩=false/\w.frozen? ⟨q,4,none⟩=false):=
 ⟨⟨(h 0 _ rfl).1,(h 1 _ rfl).1,(h 2 _ rfl).1,(h 3 _ rfl).1,(h 4 _ rfl).1⟩,⟨(h 0 _ rfl).2,(h 1 _ rfl).2,(h 2 _ rfl).2,(h 3 _ rfl).2,(h 4 _ rfl).2⟩⟩
theorem Bx.o6{w:l6}{q:Nat}{v0 v1 v2 v3 v4 v5:Value}(h:Bx w q [v0,v1,v2,v3,v4,v5]):(w.cell? ⟨q,0,none⟩=some v0/\w.cell? ⟨q,1,none⟩=some v1/\w.cell? ⟨q,2,none⟩=some v2/\w.cell? ⟨q,3,none⟩=some v3/\w.cell? ⟨q,4,none⟩=some v4/\w.cell? ⟨q,5,none⟩=some v5)/\(w.frozen? ⟨q,0,none⟩=false/\w.frozen? ⟨q,1,none⟩=false/\w.frozen? ⟨q,2,none⟩=false/\w.frozen? ⟨q,3,none⟩=false/\w.frozen? ⟨q,4,none⟩=false/\w.frozen? ⟨q,5,none⟩=false):=
 ⟨⟨(h 0 _ rfl).1,(h 1 _ rfl).1,(h 2 _ rfl).1,(h 3 _ rfl).1,(h 4 _ rfl).1,(h 5 _ rfl).1⟩,⟨(h 0 _ rfl).2,(h 1 _ rfl).2,(h 2 _ rfl).2,(h 3 _ rfl).2,(h 4 _ rfl).2,(h 5 _ rfl).2⟩⟩
theorem Bx.o7{w:l6}{q:Nat}{v0 v1 v2 v3 v4 v5 v6:Value}(h:Bx w q [v0,v1,v2,v3,v4,v5,v6]):(w.cell? ⟨q,0,none⟩=some v0/\w.cell? ⟨q,1,none⟩=some v1/\w.cell? ⟨q,2,none⟩=some v2/\w.cell? ⟨q,3,none⟩=some v3/\w.cell? ⟨q,4,none⟩=some v4/\w.cell? ⟨q,5,none⟩=some v5/\w.cell? ⟨q,6,none⟩=some v6)/\(w.frozen? ⟨q,0,none⟩=false/\w.frozen? ⟨q,1,none⟩=false/\w.frozen? ⟨q,2,none⟩=false/\w.frozen? ⟨q,3,none⟩=false/\w.frozen? ⟨q,4,none⟩=false/\w.frozen? ⟨q,5,none⟩=false/\w.frozen? ⟨q,6,none⟩=false):=
 ⟨⟨(h 0 _ rfl).1,(h 1 _ rfl).1,(h 2 _ rfl).1,(h 3 _ rfl).1,(h 4 _ rfl).1,(h 5 _ rfl).1,(h 6 _ rfl).1⟩,⟨(h 0 _ rfl).2,(h 1 _ rfl).2,(h 2 _ rfl).2,(h 3 _ rfl).2,(h 4 _ rfl).2,(h 5 _ rfl).2,(h 6 _ rfl).2⟩⟩
theorem Bx.o13{w:l6}{q:Nat}{v0 v1 v2 v3 v4 v5 v6 v7 v8 v9 v10 v11 v12:Value}(h:Bx w q [v0,v1,v2,v3,v4,v5,v6,v7,v8,v9,v10,v11,v12]):(w.cell? ⟨q,0,none⟩=some v0/\w.cell? ⟨q,1,none⟩=some v1/\w.cell? ⟨q,2,none⟩=some v2/\w.cell? ⟨q,3,none⟩=some v3/\w.cell? ⟨q,4,none⟩=some v4/\w.cell? ⟨q,5,none⟩=some v5/\w.cell? ⟨q,6,none⟩=some v6/\w.cell? ⟨q,7,none⟩=some v7/\w.cell? ⟨q,8,none⟩=some v8/\w.cell? ⟨q,9,none⟩=some v9/\w.cell? ⟨q,10,none⟩=some v10/\w.cell? ⟨q,11,none⟩=some v11/\w.cell? ⟨q,12,none⟩=some v12)/\(w.frozen? ⟨q,0,none⟩=false/\w.frozen? ⟨q,1,none⟩=false/\w.frozen? ⟨q,2,none⟩=false/\w.frozen? ⟨q,3,none⟩=false/\w.frozen? ⟨q,4,none⟩=false/\w.frozen? ⟨q,5,none⟩=false/\w.frozen? ⟨q,6,none⟩=false/\w.frozen? ⟨q,7,none⟩=false/\w.frozen? ⟨q,8,none⟩=false/\w.frozen? ⟨q,9,none⟩=false/\w.frozen? ⟨q,10,none⟩=false/\w.frozen? ⟨q,11,none⟩=false/\w.frozen? ⟨q,12,none⟩=false):=
 ⟨⟨(h 0 _ rfl).1,(h 1 _ rfl).1,(h 2 _ rfl).1,(h 3 _ rfl).1,(h 4 _ rfl).1,(h 5 _ rfl).1,(h 6 _ rfl).1,(h 7 _ rfl).1,(h 8 _ rfl).1,(h 9 _ rfl).1,(h 10 _ rfl).1,(h 11 _ rfl).1,(h 12 _ rfl).1⟩,⟨(h 0 _ rfl).2,(h 1 _ rfl).2,(h 2 _ rfl).2,(h 3 _ rfl).2,(h 4 _ rfl).2,(h 5 _ rfl).2,(h 6 _ rfl).2,(h 7 _ rfl).2,(h 8 _ rfl).2,(h 9 _ rfl).2,(h 10 _ rfl).2,(h 11 _ rfl).2,(h 12 _ rfl).2⟩⟩
structure Boxes(w W:l6)(K:Nat)(L:List (Nat×iZ))(qr:Nat):Prop where
 b:fj w W
 z:w.heap.size+K<W.heap.size
 l:∀ p∈L,p.1<=w.heap.size+K/\p.1≠qr/\Bx W p.1 p.2
 q:w.heap.size<=qr/\qr<=w.heap.size+K
section
variable{w W W':l6}{K:Nat}{L:List (Nat×iZ)}{qr:Nat}
theorem Boxes.step(hb:fj W W')(h:Boxes w W K L qr):Boxes w W' K L qr:=by
 have hz:=h.z;have hs:=hb.size;have hq:=h.q;refine⟨h.b.trans (hb.mono (by omega)),by omega,fun p hp=>?_,hq⟩
 ·obtain⟨h1,h2,h3⟩:=h.l p hp;exact⟨h1,h2,h3.below hb (by omega)⟩
theorem Boxes.drew(h:Boxes w W K L qr):Boxes w W.drew K L qr:=h.step fh.drew
theorem Boxes.set(i:Nat)(u:Value)(h:Boxes w W K L qr):Boxes w (W.setCell ⟨qr,i,none⟩ u) K L qr:=by
 have hq:=h.q;refine⟨h.b.setCell (p:=⟨qr,i,none⟩) hq.1 u,by simpa using h.z,fun p hp=>?_,hq⟩
 ·obtain⟨h1,h2,h3⟩:=h.l p hp;exact⟨h1,h2,h3.setOther (a:=⟨qr,i,none⟩) (fun e=>h2 e.symm) u⟩
theorem Boxes.cell(h:Boxes w W K L qr){q:Nat}{l:iZ}(hm:(q,l)∈L):Bx W q l:=(h.l _ hm).2.2
theorem Boxes.rest(h:Boxes w W K L qr){l:iZ}(hr:Bx W qr l)(hb:fj W W'):Bx W' qr l:=hr.below hb (by have:=h.z;have:=h.q;omega)
end
end HB
end
section
open Go.RowKit HB HeapP Go.Maps CalP
namespace HB
def GC(p:Nat)(w:l6):Nat:=match w.cell? ⟨p,2,none⟩with|some v=>di v|none=>0
theorem Hp.len{w:l6}{p g:Nat}{L:List En}(h:Hp w p g L):GC p w=L.length:=by
 obtain⟨A,c,h1,_⟩:=h.sl;unfold GC;rw[h1];rfl
theorem Trio.but{w w':l6}{X:Nat->Prop}{r:Nat}{x y z:Value}(h:Trio w r x y z)(ho:But X w w')(hx:¬ X r):Trio w' r x y z:=by
 have hb:=ho.block r h.lt hx;have hc:∀ o,w'.cell? ⟨r,o,none⟩=w.cell? ⟨r,o,none⟩:=fun o=>vg (a:=⟨r,o,none⟩) hb
 have hf:∀ o,w'.frozen? ⟨r,o,none⟩=w.frozen? ⟨r,o,none⟩:=fun o=>xC (a:=⟨r,o,none⟩) hb
 exact⟨(hc 0).trans h.c0,(hc 1).trans h.c1,(hc 2).trans h.c2,(hf 0).trans h.f0,(hf 1).trans h.f1,(hf 2).trans h.f2,kK h.lt ho.size⟩
end HB
namespace CalP
theorem Cs.set_{w w1 w2:l6}{p g g' n n':Nat}{F:Fr}{m:Option Nat}{L L' l l1 l':List En}(h:Cs w p F g m n L l)(hg:w.grownBy w1 m)(hmp:Mp w1 m n' l1)(hp':Hp w2 p g' L')(ho:Only p g w1 w2)
  (hg':g'=g\/w1.heap.size<=g')(hch:Ch L' l')(hperm:l1.Perm l'):Cs w2 p F g' m n' L' l':=by
 have hp:some p≠m:=fun e=>(h.ne p e.symm).1 rfl
 have hb:=hg.block p h.pl hp;have hr:=ho.rest (kK h.pl hg.size) 3 (by omega);refine⟨hp',hr.1.trans ((vg (a:=⟨p,3,none⟩) hb).trans h.mc),hr.2.trans ((xC (a:=⟨p,3,none⟩) hb).trans h.mf),hch,(hmp.only ho h.ne).perm hperm,fun b h0=>⟨(h.ne b h0).1,?_⟩,fun o h1 h2=>⟨((ho.rest (kK h.pl hg.size) o h1).1.trans (vg (a:=⟨p,o,none⟩) hb)).trans (h.re o h1 h2).1,((ho.rest (kK h.pl hg.size) o h1).2.trans (xC (a:=⟨p,o,none⟩) hb)).trans (h.re o h1 h2).2⟩⟩;rcases hg' with rfl|hg'
 ·exact(h.ne b h0).2
 ·have:=hmp.lt h0;omega
theorem Xu(w:l6)(row:Option Nat):w.grownBy w row:=⟨rfl,rfl,rfl,fi,fun _ _ _=>rfl⟩
theorem Cs.popped{w w2:l6}{p g n:Nat}{F:Fr}{m:Option Nat}{L L' l:List En}(h:Cs w p F g m n L l)(hp':Hp w2 p g L')(ho:Only p g w w2)(hch:Ch L' l):Cs w2 p F g m n L' l:=
 h.set_ (Xu w m) h.mp hp' ho (.inl rfl) hch (iV _)
theorem Cs.setNew{w:l6}{p g n:Nat}{F:Fr}{m:Option Nat}{L l:List En}(h:Cs w p F g m n L l){a:Addr}(ha:¬ Xb p g m a.block)(u:Value):Cs (w.setCell a u) p F g m n L l:=by
 have h1:a.block≠p:=fun e=>ha (.inl e)
 have h2:a.block≠g:=fun e=>ha (.inr (.inl e))
 have hb:(w.setCell a u).heap[p]?=w.heap[p]?:=QO _ _ _ _ (fun e=>h1 e.symm);refine⟨h.hp.setOther h1 h2 u,(vg (a:=⟨p,3,none⟩) hb).trans h.mc,(xC (a:=⟨p,3,none⟩) hb).trans h.mf,h.ch,?_,h.ne,fun o h1 h2=>⟨(vg (a:=⟨p,o,none⟩) hb).trans (h.re o h1 h2).1,(xC (a:=⟨p,o,none⟩) hb).trans (h.re o h1 h2).2⟩⟩;refine h.mp.kept (row:=some a.block) ⟨rfl,rfl,rfl,by simp,fun k hk h3=>QO _ _ _ _ (fun e=>h3 (by rw[e]))⟩ (fun b h0 e=>ha (.inr (.inr ?_)));rw[h0];exact e
theorem bi{L l:List En}(h:Ch L l){c:Int}{ok:Bool}(ht:Told l (zA L).k (zA L).i c ok):(ok=true/\c=(zA L).t/\zA L∈l)\/((ok=false\/c≠(zA L).t)/\zA L∉l):=by
 rcases ht with⟨rfl,e,he,h1,h2,h3⟩|⟨rfl,rfl,h1⟩
 ·by_cases hc:c=(zA L).t
  ·refine .inl ⟨rfl,hc,?_⟩;have:e=zA L:=by
    obtain⟨a,b,d⟩:=e;have h4:a=(zA L).t:=h3.trans hc;have h0:b=(zA L).k:=h1;have h2':d=(zA L).i:=h2;rw[h4,h0,h2']
   rw[<-this];exact he
  ·refine .inr ⟨.inr hc,fun hm=>hc ?_⟩;have:=h.uq.same he hm h1 h2;rw[<-this];exact h3.symm
 ·exact .inr ⟨.inl rfl,fun hm=>h1 _ hm ⟨rfl,rfl⟩⟩
theorem Cs.gone{w w1 w2 w3:l6}{p g n n':Nat}{F:Fr}{m:Option Nat}{L L' l l':List En}(h:Cs w p F g m n L l)(hp':Hp w1 p g L')(ho:Only p g w w1)(hb:fj w1 w2)(hg:w2.grownBy w3 m)(hmp:Mp w3 m n' l')(hch:Ch L' l'):Cs w3 p F g m n' L' l':=by
 have hp:some p≠m:=fun e=>(h.ne p e.symm).1 rfl
 have h3:some g≠m:=fun e=>(h.ne g e.symm).2 rfl
 have hr:=ho.rest h.pl 3 (by omega);have h0:=kK h.pl ho.size;have hk:=hg.block p (kK h0 hb.size) hp;exact⟨(hp'.below hb).grown hg hp h3,(vg (a:=⟨p,3,none⟩) hk).trans (zf hb (hr.1.trans h.mc)),(xC (a:=⟨p,3,none⟩) hk).trans ((hb.frozen (p:=⟨p,3,none⟩) h0).trans (hr.2.trans h.mf)),hch,hmp,h.ne,fun o h1 h2=>⟨(vg (a:=⟨p,o,none⟩) hk).trans ((hb.cell (p:=⟨p,o,none⟩) h0).trans ((ho.rest h.pl o h1).1.trans (h.re o h1 h2).1)),(xC (a:=⟨p,o,none⟩) hk).trans ((hb.frozen (p:=⟨p,o,none⟩) h0).trans ((ho.rest h.pl o h1).2.trans (h.re o h1 h2).2))⟩⟩
end CalP
def CPeek(p:Nat)(F:Fr)(g n:Nat)(m:Option Nat)(L l:List En)(w:l6)(e:Ending)(w':l6):Prop:=
 e=.returned (.tuple #[.agg #[O J (zA l).t,O J (zA l).k,O J (zA l).i],.bool (decide (0<l.length))])/\∃ L',Cs w' p F g m n L' l/\(0<l.length->0<L'.length/\zA L'=zA l)/\L'.length<=L.length/\But (Xb p g m) w w'
theorem CPeek.back{p g n:Nat}{F:Fr}{m:Option Nat}{L L' l:List En}{w wr:l6}(hC:Cs wr p F g m n L' l)(hO:But (Xb p g m) w wr)(hx:∀ k,Xb p g m k->k<w.heap.size)(hle:L'.length<=L.length)(hl:0<l.length->0<L'.length/\zA L'=zA l)(x y z:Value):
  ∃L2,Cs (((wr.setCell ⟨w.heap.size,0,none⟩ x).setCell ⟨w.heap.size,1,none⟩ y).setCell ⟨w.heap.size,2,none⟩ z) p F g m n L2 l/\(0<l.length->0<L2.length/\zA L2=zA l)/\L2.length<=L.length/\But (Xb p g m) w (((wr.setCell ⟨w.heap.size,0,none⟩ x).setCell ⟨w.heap.size,1,none⟩ y).setCell ⟨w.heap.size,2,none⟩ z):=by
 have hn:¬ Xb p g m w.heap.size:=fun h=>Nat.lt_irrefl _ (hx _ h)
 exact⟨L',((hC.setNew (a:=⟨w.heap.size,0,none⟩) hn x).setNew (a:=⟨w.heap.size,1,none⟩) hn y).setNew (a:=⟨w.heap.size,2,none⟩) hn z,hl,hle,
  ((hO.set (a:=⟨w.heap.size,0,none⟩) (.inr fi) x).set (a:=⟨w.heap.size,1,none⟩) (.inr fi) y).set (a:=⟨w.heap.size,2,none⟩) (.inr fi) z⟩
def lq(p:Nat)(F:Fr)(g n N:Nat)(m:Option Nat)(l:List En)(w:l6)(pe ok:Value)(wr:l6):Prop:=
 ∃(L':List En)(q:Nat),pe=.pointer (some ⟨q,0,none⟩)/\ok=.bool (decide (0<L'.length))/\L'.length<=N/\Cs wr p F g m n L' l/\Trio wr w.heap.size (O J 0) (O J 0) (O J 0)/\Trio wr q (O J (zA L').t) (O J (zA L').k) (O J (zA L').i)/\w.heap.size<q/\But (Xb p g m) w wr
theorem kY{F:Fr}(p g n N:Nat)(m:Option Nat)(L l:List En)(w:l6)(h:Cs w p F g m n L l)(hl:L.length=N)(hn:N<=4000000):
  Calls prog 180 #[.pointer (some ⟨p,2,none⟩)] w (CPeek p F g n m L l w):=by
 have HC:=ze h;have Hl:=ze hl;have HX:=ze (fun k(hk:Xb p g m k)=>h.xlt hk);have Hc:=h.pl;have Ha:=h.hp.gl;have ho:=ze ((Below.refl w.heap.size w).alloc fi (.cells #[O J 0,O J 0,O J 0] 312));have hV:=ze (Trio.new w 312 (O J 0) (O J 0) (O J 0));have hR:=ze (co p g L.length L _ (h.hp.below ho.o) rfl (by omega));clear h hl
 go_in
 go_wp2_with(go_at_call 216;refine(hR.o).mono ?_;rintro e w1 ⟨rfl,hX⟩;have h2:=ze hX;clear hX);have hL:=ze ((HC.o.below ho.o).below (h2.o.alloc h2.o.size (.cells #[O J (zA L).t,O J (zA L).k,O J (zA L).i] 312)));have hU:=ze (hV.o.below (h2.o.alloc h2.o.size (.cells #[O J (zA L).t,O J (zA L).k,O J (zA L).i] 312)));have hW:=ze (Trio.new w1 312 (O J (zA L).t) (O J (zA L).k) (O J (zA L).i));have hP:=ze ((But.of_below (X:=Xb p g m) ho.o).then_ (h2.o.alloc h2.o.size (.cells #[O J (zA L).t,O J (zA L).k,O J (zA L).i] 312)));have H4:w.heap.size<w1.heap.size:=by have:=h2.o.size;simp at this;omega
 clear hR h2 ho hV;generalize w1.alloc (.cells #[O J (zA L).t,O J (zA L).k,O J (zA L).i] 312)=w3 at*;generalize w1.heap.size=q0 at*
 go_loopw [4,5] (fun pe ok wr=>lq p F g n N m l w pe ok wr) (fun _ _ wr=>GC p wr)
 case atStart=>exact⟨L,q0,rfl,rfl,by rw[Hl.o];exact fi,hL.o,hU.o,hW.o,H4,hP.o⟩
 case round=>
  obtain⟨L',q,rfl,rfl,hZ,hE,H0,H1,hq,hG⟩:=hrel;have HC:=ze hE;have HR:=ze H0;have HT:=ze H1;have hQ:=ze hG;have H7:=ze (fun k(hk:Xb p g m k)=>HX.o k hk);have H8:=hG.size;have c1:=hE.mc;clear hE H0 H1 hG hL hU hW hP;obtain⟨t0,t1,t2,-,-,-,-⟩:=HT.o;obtain⟨r0,r1,r2,f0,f1,f2,H5⟩:=HR.o;rcases ZW L'.length with hz|hz
  ·have hd:decide (0<L'.length)=false:=by simp;exact yj hz
   have hY:l=[]:=by
    cases l with
    |nil=>rfl
    |cons x t=>
     have:=List.length_pos_of_mem (HC.o.ch.sub x xz);omega
   have HZ:=ze hz;have hM:=ze hY;clear hz hY;rw[hd];clear hd;go_wp2_with fail;refine bodyPost_ret (by simp[results,Tryz.results180,go_sem, *];try rfl) rfl ?_;refine⟨by rw[hM.o];rfl,CPeek.back HC.o hQ.o HX.o (by rw[Hl.o];exact hZ) (fun h=>by rw[hM.o]at h;simp at h) _ _ _⟩
  ·have hd:decide (0<L'.length)=true:=by simpa using hz
   have HZ:=ze hz;have hJ:=HC.o.ch.wf _ (jx (ke hz));obtain⟨c,ok,hT,hj⟩:=HC.o.look hJ.2.1 hJ.2.2;have hN:=ze (bi HC.o.ch hT);have hy:=ze hj;rw[hd];clear hz hd hJ hT hj;go_wp2_with fail
   go_region_held3 (fun w'=>w'.cell? ⟨p,3,none⟩=some (.map m)/\w'.cell? ⟨q,1,none⟩=some (O J (zA L').k)/\w'.cell? ⟨q,2,none⟩=some (O J (zA L').i)/\(Instr.lookup 143 (.map m) (.agg #[O J (zA L').k,O J (zA L').i]) true).run prog w'=.ok (.tuple #[O J c,.bool ok]) w'/\fj wr w')
    (first|(go_split_ands;exact⟨zf h7 ‹_›,zf h7 ‹_›,zf h7 ‹_›,hy.o _ ((‹fj wr _›).trans (h7.mono (‹fj wr _›).size)),(‹fj wr _›).trans (h7.mono (‹fj wr _›).size)⟩)|(exact⟨c1,t1,t2,hy.o _ fh.drew,fh.drew⟩)|(go_split_ands;exact⟨‹_›,‹_›,‹_›,‹_›,‹_›⟩))
    (first|(go_at_call 178;refine(kh _ _ _).mono ?_;rintro e w4 ⟨rfl,h7⟩))
   have h9:=ze (show fj wr w4 from by go_split_ands;assumption);rename_i hH;clear hH h7 t0 t1 t2 r0 r1 r2 f0 f1 f2 c1;have h3:=ze (HC.o.below h9.o);have hv:=ze (HR.o.below h9.o);have hA:=ze (HT.o.below h9.o);have hr:=ze (hQ.o.then_ h9.o);have Hj:=h9.o.size;obtain⟨t0,t1,t2,-,-,-,-⟩:=hA.o;obtain⟨r0,r1,r2,f0,f1,f2,H5⟩:=hv.o;rcases hN.o with⟨rfl,rfl,hm⟩|⟨hnl,hm⟩
   ·obtain⟨t,ht⟩:=h3.o.ch.live HZ.o hm;have hC:=ze (show zA l=zA L'/\0<l.length from by rw[ht];exact⟨rfl,by simp⟩);clear hm ht;go_wp2_with fail;refine bodyPost_ret (by simp[results,Tryz.results180,go_sem, *];try rfl) rfl ?_;refine⟨by rw[hC.o.1,decide_eq_true hC.o.2],CPeek.back h3.o hr.o HX.o (by rw[Hl.o];exact hZ) (fun _=>⟨HZ.o,hC.o.1.symm⟩) _ _ _⟩
   ·have hO:=ze hm;have h4:=ze (show q≠p/\q≠g/\w.heap.size≠p/\w.heap.size≠g from by omega);have hI:=g8 p g L'.length L' w4 h3.o.hp h3.o.ch.heap rfl (by omega);rw[show decide (0<L'.length)=true from by simpa using HZ.o]at hI;have hS:=ze hI;have H2:ok=false\/(ok=true/\(c==(zA L').t)=false):=by
     rcases hnl with h|h
     ·exact .inl h
     ·cases ok with
      |false=>exact .inl rfl
      |true=>exact .inr ⟨rfl,by simpa using h⟩
    clear hm hnl hI hy hN;rcases H2 with rfl|⟨rfl,H9⟩
    ·go_wp2_with(first
      |(go_at_call 217;refine(hS.o).mono ?_;rintro e8 w8 ⟨rfl,L8,hi,hg,hD,h5,h1⟩;
        have h8:=ze (h5 HZ.o);have H6:=h1.size;have hc:=ze (h3.o.popped hi h1 (h3.o.ch.stale hg (h5 HZ.o) hO.o));
        have hs:=ze (hr.o.trans (But.of_only (X:=Xb p g m) h1 (.inl rfl) (.inr (.inl rfl))) (fun _ _ h=>h));
        have hB:=ze (hA.o.only h1 h4.o.1 h4.o.2.1);have hw:=ze (hv.o.only h1 h4.o.2.2.1 h4.o.2.2.2);
        clear hi hg hD h5 h1 t0 t1 t2 r0 r1 r2 f0 f1 f2;
        obtain⟨t0,t1,t2,-,-,-,-⟩:=hB.o)
      |(go_at_call 216;refine(co p g L8.length L8 _ (hc.o.hp.below (fh.alloc fi (.cells #[O J (zA L').t,O J (zA L').k,O J (zA L').i] 312))) rfl (by have:=h8.o.length_eq;simp at this;omega)).mono ?_;rintro e9 w9 ⟨rfl,hb9⟩;
        have ha:=ze hb9;clear hb9;
        have he:=ze ((Trio.new w8 312 (O J (zA L').t) (O J (zA L').k) (O J (zA L').i)).below ha.o);
        obtain⟨u0,u1,u2,v0,v1,v2,hu⟩:=he.o))
     have hF:=h8.o.length_eq;simp only[Zn]at hF;have h0:fj w8 w9:=then_ ((Below.refl w8.heap.size w8).alloc fi (.cells #[O J (zA L').t,O J (zA L').k,O J (zA L').i] 312)) ha.o (by simp);have h6:¬ Xb p g m w8.heap.size:=fun h=>by have:=HX.o _ h;omega
     have hf:=(((hc.o.below h0).setNew (a:=⟨w8.heap.size,0,none⟩) h6 (O J (zA L8).t)).setNew (a:=⟨w8.heap.size,1,none⟩) h6 (O J (zA L8).k)).setNew (a:=⟨w8.heap.size,2,none⟩) h6 (O J (zA L8).i);refine⟨⟨L8,w8.heap.size,rfl,rfl,by omega,hf,(hw.o.below h0).grown (kg _ _ _ _ _) (fun h=>by injection h with h;omega),he.o.stored _ _ _,by omega,(hs.o.then_ h0).grown (kg _ _ _ _ _) (fun k hk H3=>by injection hk with hk;omega)⟩,?_⟩;rw[hf.hp.len,HC.o.hp.len];omega
    ·go_wp2_with(first
      |(go_at_call 217;refine(hS.o).mono ?_;rintro e8 w8 ⟨rfl,L8,hi,hg,hD,h5,h1⟩;
        have h8:=ze (h5 HZ.o);have H6:=h1.size;have hc:=ze (h3.o.popped hi h1 (h3.o.ch.stale hg (h5 HZ.o) hO.o));
        have hs:=ze (hr.o.trans (But.of_only (X:=Xb p g m) h1 (.inl rfl) (.inr (.inl rfl))) (fun _ _ h=>h));
        have hB:=ze (hA.o.only h1 h4.o.1 h4.o.2.1);have hw:=ze (hv.o.only h1 h4.o.2.2.1 h4.o.2.2.2);
        clear hi hg hD h5 h1 t0 t1 t2 r0 r1 r2 f0 f1 f2;
        obtain⟨t0,t1,t2,-,-,-,-⟩:=hB.o)
      |(go_at_call 216;refine(co p g L8.length L8 _ (hc.o.hp.below (fh.alloc fi (.cells #[O J (zA L').t,O J (zA L').k,O J (zA L').i] 312))) rfl (by have:=h8.o.length_eq;simp at this;omega)).mono ?_;rintro e9 w9 ⟨rfl,hb9⟩;
        have ha:=ze hb9;clear hb9;
        have he:=ze ((Trio.new w8 312 (O J (zA L').t) (O J (zA L').k) (O J (zA L').i)).below ha.o);
        obtain⟨u0,u1,u2,v0,v1,v2,hu⟩:=he.o))
     have hF:=h8.o.length_eq;simp only[Zn]at hF;have h0:fj w8 w9:=then_ ((Below.refl w8.heap.size w8).alloc fi (.cells #[O J (zA L').t,O J (zA L').k,O J (zA L').i] 312)) ha.o (by simp);have h6:¬ Xb p g m w8.heap.size:=fun h=>by have:=HX.o _ h;omega
     have hf:=(((hc.o.below h0).setNew (a:=⟨w8.heap.size,0,none⟩) h6 (O J (zA L8).t)).setNew (a:=⟨w8.heap.size,1,none⟩) h6 (O J (zA L8).k)).setNew (a:=⟨w8.heap.size,2,none⟩) h6 (O J (zA L8).i);refine⟨⟨L8,w8.heap.size,rfl,rfl,by omega,hf,(hw.o.below h0).grown (kg _ _ _ _ _) (fun h=>by injection h with h;omega),he.o.stored _ _ _,by omega,(hs.o.then_ h0).grown (kg _ _ _ _ _) (fun k hk H3=>by injection hk with hk;omega)⟩,?_⟩;rw[hf.hp.len,HC.o.hp.len];omega
def CPop(p:Nat)(F:Fr)(g n:Nat)(m:Option Nat)(L l:List En)(w:l6)(e:Ending)(w':l6):Prop:=
 e=.returned (.tuple #[.agg #[O J (zA l).t,O J (zA l).k,O J (zA l).i],.bool (decide (0<l.length))])/\∃ L',Cs w' p F g m n L' (l.drop 1)/\L'.length<=L.length/\But (Xb p g m) w w'
theorem CPop.back{p g n:Nat}{F:Fr}{m:Option Nat}{L L' l:List En}{w wr:l6}(hC:Cs wr p F g m n L' l)(hO:But (Xb p g m) w wr)(hx:∀ k,Xb p g m k->k<w.heap.size)(hle:L'.length<=L.length)(x y z:Value):
  ∃L2,Cs (((wr.setCell ⟨w.heap.size,0,none⟩ x).setCell ⟨w.heap.size,1,none⟩ y).setCell ⟨w.heap.size,2,none⟩ z) p F g m n L2 l/\L2.length<=L.length/\But (Xb p g m) w (((wr.setCell ⟨w.heap.size,0,none⟩ x).setCell ⟨w.heap.size,1,none⟩ y).setCell ⟨w.heap.size,2,none⟩ z):=by
 have hn:¬ Xb p g m w.heap.size:=fun h=>Nat.lt_irrefl _ (hx _ h)
 exact⟨L',((hC.setNew (a:=⟨w.heap.size,0,none⟩) hn x).setNew (a:=⟨w.heap.size,1,none⟩) hn y).setNew (a:=⟨w.heap.size,2,none⟩) hn z,hle,
  ((hO.set (a:=⟨w.heap.size,0,none⟩) (.inr fi) x).set (a:=⟨w.heap.size,1,none⟩) (.inr fi) y).set (a:=⟨w.heap.size,2,none⟩) (.inr fi) z⟩
theorem Yu{F:Fr}(p g n N:Nat)(m:Option Nat)(L l:List En)(w:l6)(h:Cs w p F g m n L l)(hl:L.length=N)(hn:N<=4000000):
  Calls prog 181 #[.pointer (some ⟨p,2,none⟩)] w (CPop p F g n m L l w):=by
 have Hl:=ze hl;have HX:=ze (fun k(hk:Xb p g m k)=>h.xlt hk);have H5:=h.pl;have H4:=h.hp.gl;have hc:=ze ((Below.refl w.heap.size w).alloc fi (.cells #[O J 0,O J 0,O J 0] 312));have hv:=ze (Trio.new w 312 (O J 0) (O J 0) (O J 0));have hr:=ze (kY p g n N m L l _ (h.below hc.o) hl hn);clear h hl
 go_in
 go_upto_region 2 with(go_at_call 180;refine(hr.o).mono ?_;rintro e w1 ⟨rfl,L1,hC,hN,hE,hF⟩;have hj:=ze hC;have hW:=ze hN;have h9:=ze hE;have ha:=ze hF;clear hC hN hE hF);have h0:=ze (hj.o.below (fh.alloc fi (.cells #[O J (zA l).t,O J (zA l).k,O J (zA l).i] 312)));have h2:=ze (show w.heap.size≠p/\w.heap.size≠g/\¬ Xb p g m w.heap.size from⟨by omega,by omega,fun h=>Nat.lt_irrefl _ (HX.o _ h)⟩);have H1:=ha.o.size;simp only[World.size_alloc]at H1;have ht:Hz (Trio (w1.alloc (.cells #[O J (zA l).t,O J (zA l).k,O J (zA l).i] 312)) w.heap.size (O J 0) (O J 0) (O J 0)):=ze (Trio.below (Trio.but hv.o ha.o h2.o.2.2) (fh.alloc fi _));have hw:=ze (Trio.new w1 312 (O J (zA l).t) (O J (zA l).k) (O J (zA l).i));have ho:=ze (((But.of_below (X:=Xb p g m) hc.o).trans ha.o (fun _ _ h=>h)).then_ (fh.alloc fi (.cells #[O J (zA l).t,O J (zA l).k,O J (zA l).i] 312)));clear hr hj hc hv ha;generalize w1.alloc (.cells #[O J (zA l).t,O J (zA l).k,O J (zA l).i] 312)=w3 at*;generalize w1.heap.size=q0 at*;have c1:=h0.o.mc;obtain⟨t0,t1,t2,-,-,-,-⟩:=hw.o;obtain⟨r0,r1,r2,f0,f1,f2,hL⟩:=ht.o;cases l with
 |nil=>
  go_wp2_with fail;refine bodyPost_ret (by simp[results,Tryz.results181,go_sem, *];try rfl) rfl ?_;exact⟨rfl,CPop.back h0.o ho.o HX.o h9.o _ _ _⟩
 |cons a t=>
  obtain⟨hz,hg⟩:=hW.o (by simp);have HZ:=ze hz;have hY:=ze hg;have hI:=g8 p g L1.length L1 w3 h0.o.hp h0.o.ch.heap rfl (by rw[Hl.o]at h9;have:=h9.o;omega);have hs:=ze hI;have hO:WC (zA (a::t)):=h0.o.ch.wfl a xz;have HL:=ze (show Ch L1 (zA L1::t) by rw[hg];exact h0.o.ch);have hd:decide (0<(a::t).length)=true:=by simp
  have H2:=ze (show(a::t).drop 1=t from rfl);have h3:=ze (show zA (a::t)=a from rfl);rw[hd];have HW:=ze hO;clear hz hg hI hO hd;generalize zA (a::t)=x at*;go_upto_region 4 with(go_at_call 217;refine(hs.o).mono ?_;rintro e w5 ⟨rfl,L5,hG,hD,H0,hA,h6⟩;have hU:=ze hG;have hQ:=ze hD;have hi:=ze (hA HZ.o);have he:=ze h6;have c5:w5.cell? ⟨p,3,none⟩=some (.map m):=(h6.rest h0.o.pl 3 (by omega)).1.trans h0.o.mc;have hy:=ze (hw.o.only h6 (by omega) (by omega));have hu:=ze (ht.o.only h6 (by omega) (by omega));clear hG hD H0 hA h6);have H3:=ze h0.o;have hZ:=ze (fun W(h:fj w5 W)=>(h0.o.mp.only he.o h0.o.ne).below h);obtain⟨t0,t1,t2,-,-,-,-⟩:=hy.o;obtain⟨r0,r1,r2,f0,f1,f2,hL⟩:=hu.o
  go_region_with (go_at_call 178;refine(kh x.k x.i _).mono ?_;rintro e w6 ⟨rfl,hB⟩;have hb:fj w5 w6:=fh.drew.trans hB;obtain⟨w7,hM,h5,h4⟩:=(hZ.o w6 hb).drop h0.o.ch.uq h0.o.ch.wfl HW.o.2.1 HW.o.2.2 0;have c6:=zf hb c5;have hS:=ze h5;have h8:=ze h4;have h7:=ze hb;have T0:=zf hb t0;have T1:=zf hb t1;have T2:=zf hb t2;clear h5 h4 hb hB)
  all_goals
   have hJ:¬ Xb p g m q0:=fun h=>by have:=HX.o _ h;omega
   have hX:=ze ((hy.o.below h7.o).grown h8.o (fun e=>hJ (.inr (.inr e.symm))));have hV:=ze ((hu.o.below h7.o).grown h8.o (fun e=>h2.o.2.2 (.inr (.inr e.symm))));clear T0 T1 T2 t0 t1 t2 r0 r1 r2 f0 f1 f2;obtain⟨t0,t1,t2,-,-,-,-⟩:=hX.o;obtain⟨r0,r1,r2,f0,f1,f2,hL⟩:=hV.o;have hm:=ze (show Ch L5 t/\wo (a::t) x.k x.i=t from by
    have h1:=HL.o.pop hQ.o hi.o;rw[hY.o]at h1;refine⟨h1.1,?_⟩;rw[<-h3.o];exact h1.2.symm)
   have hf:=hS.o;rw[hm.o.2]at hf;have hP:=ze (h0.o.gone hU.o he.o h7.o h8.o hf hm.o.1);have hT:=ze (((ho.o.trans (But.of_only (X:=Xb p g m) he.o (.inl rfl) (.inr (.inl rfl))) (fun _ _ h=>h)).then_ h7.o).grown h8.o (fun q hq _=>.inr (.inr hq)));have hR:=ze (show L5.length<=L.length from by have h1:=hi.o.length_eq;simp only[Zn]at h1;have:=h9.o;omega);clear hf hJ hs;go_wp2_with fail;refine bodyPost_ret (by simp[results,Tryz.results181,go_sem, *];try rfl) rfl ?_;exact⟨by rw[h3.o];rfl,CPop.back hP.o hT.o HX.o hR.o _ _ _⟩
theorem KQ{α:Type}(h:Array α)(o:α)(i:Nat)(f:α->α)(hi:i<h.size):(h.push o).modify i f=(h.modify i f).push o:=by
 apply Array.ext
 ·simp
 ·intro j h1 h2;simp only[iJ,iU,Array.size_modify];by_cases hj:j<h.size
  ·simp[hj]
  ·have:¬ i=j:=by omega
   simp[hj,this]
theorem ZH(w:l6)(o:Obj)(a:Addr)(v:Value)(h:a.block<w.heap.size):(w.alloc o).setCell a v=(w.setCell a v).alloc o:=by
 unfold World.setCell World.alloc;simp only;rw[KQ _ _ _ _ h]
namespace CalP
theorem Cs.wx{w:l6}{p g n:Nat}{F:Fr}{m:Option Nat}{L l:List En}(h:Cs w p F g m n L l):∀ k,Xb p g m k->k<w.heap.size:=fun k hk=>h.xlt hk
theorem Cs.made{w:l6}{p g n:Nat}{F:Fr}{L l:List En}(h:Cs w p F g none n L l):Cs ((w.alloc (.map #[] 0)).setCell ⟨p,3,none⟩ (.map (some w.heap.size))) p F g (some w.heap.size) 0 L l/\But (Xb p g none) w ((w.alloc (.map #[] 0)).setCell ⟨p,3,none⟩ (.map (some w.heap.size))):=by
 have hb:=(Below.refl w.heap.size w).alloc fi (.map #[] 0);have h2:=h.below hb;have hl:l=[]:=by
  rcases h.mp with⟨_,h⟩|⟨b,_,h,_⟩
  ·exact h
  ·cases h
 have hc:=h.pl;have ha:=h.hp.gl;refine⟨⟨?_,KO _ _ _ h2.mc,by rw[yD];exact h2.mf,h.ch,?_,fun b hb=>by injection hb with hb;omega,fun o h3 h4=>⟨?_,by rw[yD];exact(h2.re o h3 h4).2⟩⟩,(But.of_below hb).set (a:=⟨p,3,none⟩) (.inl (.inl rfl)) _⟩
 ·obtain⟨v,h1,h2,h3,h4,h5⟩:=h2.hp;refine⟨v,?_,by rw[yD];exact h2,by simpa using h3,h4.other fun b k c hv=>QO _ _ _ _ ?_,?_⟩
  ·rw[Zm _ _ _ _ (by intro e;injection e with _ e _;exact absurd e (by decide))];exact h1
  ·rcases h5 with⟨rfl,_⟩|⟨c',rfl,_,hg,_⟩
   ·simp at hv
   ·simp at hv;obtain⟨rfl,_⟩:=hv;exact hg
  ·rcases h5 with h5|⟨c,h6,h7,h8,h9⟩
   ·exact .inl h5
   ·exact .inr ⟨c,h6,h7,h8,by simpa using h9⟩
 ·subst hl;refine(Mp.made w).kept (row:=some p) ⟨rfl,rfl,rfl,by simp,fun k hk h0=>QO _ _ _ _ (fun e=>h0 (by rw[e]))⟩ (fun b hb e=>?_);injection hb with hb;injection e with e;omega
 ·rw[Zm _ _ _ _ (by intro e;injection e with _ e _;exact h4 e.symm)];exact(h2.re o h3 h4).1
end CalP
def bj(p:Nat)(F:Fr)(g n:Nat)(m:Option Nat)(L l:List En)(e:En)(w w':l6):Prop:=
 ∃g' b n' L',(∀l',Zo l'->l'.Perm (e::wo l e.k e.i)->Cs w' p F g' (some b) n' L' l')/\L'.length<=L.length+1/\n'<=n+1/\But (Xb p g m) w w'/\(∀k,k<w.heap.size->Xb p g' (some b) k->Xb p g m k)
theorem Qr{F:Fr}(p g n N:Nat)(m:Option Nat)(L l:List En)(e:En)(w:l6)(h:Cs w p F g m n L l)(hl:L.length=N)(hN:N<=3000000)(hn:n<=3000000)(he:WC e):
  Calls prog 139 #[.pointer (some ⟨p,2,none⟩),O J e.k,O J e.i,O J e.t] w fun r w'=>r=.returned (.tuple #[])/\bj p F g n m L l e w w':=by
 have HC:=ze h;have Hl:=ze hl;have hU:=h.pl;have hX:=h.hp.gl;clear h hl;have hS:=fun(W:l6)(r:Option Nat)=>run_eql_map_nil (P:=prog) W _ _ _ r underlying143
 have hY:= @run_makeMap prog
 go_in
 have c1:=HC.o.mc;have f1:=HC.o.mf
 go_upto_if 14 with(fail)
 go_cut [] (fun wx=>∃ b n',Cs wx p F g (some b) n' L l/\n'<=n/\But (Xb p g m) w wx/\(m=some b\/w.heap.size<=b))
 case first=>
  cases m with
  |none=>
   have hL:(w.alloc (.map #[] 0)).setCell ⟨p,3,none⟩ (.map (some w.heap.size))=(w.setCell ⟨p,3,none⟩ (.map (some w.heap.size))).alloc (.map #[] 0):=ZH _ _ _ _ hU;have hI:=HC.o.made;rw[hL]at hI;have HM:=ze hI;clear hL hI;go_wp2_with fail
   go_meet
   exact⟨_,0,HM.o.1,vf _,HM.o.2,.inr fi⟩
  |some b=>
   go_wp2_with fail
   go_meet
   exact⟨b,n,HC.o,fi,But.refl _ _,.inl rfl⟩
 case rest=>
  obtain⟨b,n',hc,hZ,hf,hm⟩:=hcut;have hJ:=ze hc;have HO:=ze hf;have HM:=ze hm;have HX:=ze HC.o.wx;obtain⟨c,ok,hT,hw⟩:=hc.look he.2.1 he.2.2;have HT:=ze hT;have hG:=ze hw;have H1:=hf.size;clear c1 f1;have c1:=hc.mc;clear hT hw hc hf hm HC;go_upto_region 2 with(fail)
  go_region_held3 (fun w'=>w'.cell? ⟨p,3,none⟩=some (.map (some b))/\(Instr.lookup 143 (.map (some b)) (.agg #[O J e.k,O J e.i]) true).run prog w'=.ok (.tuple #[O J c,.bool ok]) w'/\fj wc w')
   (first|(go_split_ands;exact⟨zf hA ‹_›,hG.o _ ((‹fj wc _›).trans (hA.mono (‹fj wc _›).size)),(‹fj wc _›).trans (hA.mono (‹fj wc _›).size)⟩)|(exact⟨c1,hG.o _ fh.drew,fh.drew⟩)|(go_split_ands;exact⟨‹_›,‹_›,‹_›⟩))
   (first|(go_at_call 178;refine(kh _ _ _).mono ?_;rintro r w4 ⟨rfl,hA⟩))
  have hB:=ze (show fj wc w4 from by go_split_ands;assumption);rename_i hH;clear hH hA c1;have h0:=ze (hJ.o.below hB.o);have hz:=ze (HO.o.then_ hB.o);have c4:=h0.o.mc;have H0:=hB.o.size;clear hG;have hd:=ze (fun i(hi:i<w.heap.size)(hx:Xb p g (some b) i)=>(show Xb p g m i from by
   rcases hx with h|h|h
   ·exact .inl h
   ·exact .inr (.inl h)
   ·injection h with h;rcases HM.o with h2|h2
    ·exact .inr (.inr (by rw[h2,h]))
    ·omega))
  have hV:=ze hz.o;by_cases h6:ok=true/\c=e.t
  ·obtain⟨rfl,rfl⟩:=h6;have HE:=ze (show e∈l from by
    rcases HT.o with⟨_,x,hx,h1,h2,h3⟩|⟨h,_⟩
    ·have:x=e:=by
      obtain⟨a,d,f⟩:=x;have hM:d=e.k:=h1;have h2':f=e.i:=h2;have hO:a=e.t:=h3;rw[hM,h2',hO]
     rw[<-this];exact hx
    ·cases h)
   go_wp2_with fail;refine bodyPost_ret (results_none rfl _ _ _) rfl ?_;refine⟨rfl,g,b,n',L,fun l' h1 h2=>?_,by omega,by omega,hz.o,fun k hk hx=>hd.o k hk hx⟩;obtain⟨h3,h4⟩:=h0.o.ch.same HE.o h1 h2;exact⟨h0.o.hp,h0.o.mc,h0.o.mf,h3,h0.o.mp.perm h4.symm,h0.o.ne,h0.o.re⟩
  ·have hR:ok=false\/(ok=true/\(c==e.t)=false):=by
    cases ok with
    |false=>exact .inl rfl
    |true=>exact .inr ⟨rfl,by simpa using h6⟩
   clear h6 HT HO hJ;rcases hR with rfl|⟨rfl,hW⟩
   ·go_wp2_with fail
    go_region_with (go_at_call 178;refine(kh e.k e.i _).mono ?_;rintro r w5 ⟨rfl,hq⟩;have hb:fj w4 w5:=fh.drew.trans hq;obtain⟨w6,hy,h8,h7⟩:=(h0.o.mp.below hb).store h0.o.ch.uq h0.o.ch.wfl (by simp only[maxLen];omega) he;have c5:=zf hb c4;have hD:=ze h8;have h9:=ze h7;have ha:=ze hb;clear h8 h7 hb hq)
    all_goals
     have h5:=ze (h0.o.below ha.o);have hF:=ze (fT p g N L e w6 (h5.o.hp.grown h9.o (fun h=>(h5.o.ne p h.symm).1 rfl) (fun h=>(h5.o.ne g h.symm).2 rfl)) h5.o.ch.heap Hl.o (by omega));go_wp2_with(go_at_call 179;refine(hF.o).mono ?_;rintro r w8 ⟨rfl,g',L8,hv,hs,ht,hu,hr⟩;have hE:=ze hv;have hC:=ze hs;have hj:=ze ht;have ho:=ze hu;have hg:=ze hr;clear hv hs ht hu hr);go_end0;have hQ:=h9.o.size;have hP:=ha.o.size;refine⟨rfl,g',b,n'+1,L8,fun l' h1 h2=>h5.o.set_ h9.o hD.o hE.o ho.o hg.o (h5.o.ch.set he hC.o hj.o h1 h2) h2.symm,by have:=hj.o.length_eq;simp only[Zn]at this;omega,by omega,?_,?_⟩
     ·exact((hz.o.then_ ha.o).trans (Y:=Xb p g (some b)) (But.of_grown h9.o (fun k hk=>.inr (.inr hk))) hd.o).trans (Y:=Xb p g (some b)) (But.of_only ho.o (.inl rfl) (.inr (.inl rfl))) hd.o
     ·intro k hk hx;rcases hx with h|h|h
      ·exact .inl h
      ·rcases hg.o with h2|h2
       ·exact .inr (.inl (h.trans h2))
       ·omega
      ·exact hd.o k hk (.inr (.inr h))
   ·go_wp2_with fail
    go_region_with (go_at_call 178;refine(kh e.k e.i _).mono ?_;rintro r w5 ⟨rfl,hq⟩;have hb:fj w4 w5:=fh.drew.trans hq;obtain⟨w6,hy,h8,h7⟩:=(h0.o.mp.below hb).store h0.o.ch.uq h0.o.ch.wfl (by simp only[maxLen];omega) he;have c5:=zf hb c4;have hD:=ze h8;have h9:=ze h7;have ha:=ze hb;clear h8 h7 hb hq)
    all_goals
     have h5:=ze (h0.o.below ha.o);have hF:=ze (fT p g N L e w6 (h5.o.hp.grown h9.o (fun h=>(h5.o.ne p h.symm).1 rfl) (fun h=>(h5.o.ne g h.symm).2 rfl)) h5.o.ch.heap Hl.o (by omega));go_wp2_with(go_at_call 179;refine(hF.o).mono ?_;rintro r w8 ⟨rfl,g',L8,hv,hs,ht,hu,hr⟩;have hE:=ze hv;have hC:=ze hs;have hj:=ze ht;have ho:=ze hu;have hg:=ze hr;clear hv hs ht hu hr);go_end0;have hQ:=h9.o.size;have hP:=ha.o.size;refine⟨rfl,g',b,n'+1,L8,fun l' h1 h2=>h5.o.set_ h9.o hD.o hE.o ho.o hg.o (h5.o.ch.set he hC.o hj.o h1 h2) h2.symm,by have:=hj.o.length_eq;simp only[Zn]at this;omega,by omega,?_,?_⟩
     ·exact((hz.o.then_ ha.o).trans (Y:=Xb p g (some b)) (But.of_grown h9.o (fun k hk=>.inr (.inr hk))) hd.o).trans (Y:=Xb p g (some b)) (But.of_only ho.o (.inl rfl) (.inr (.inl rfl))) hd.o
     ·intro k hk hx;rcases hx with h|h|h
      ·exact .inl h
      ·rcases hg.o with h2|h2
       ·exact .inr (.inl (h.trans h2))
       ·omega
      ·exact hd.o k hk (.inr (.inr h))
end
end Go.Proofs.YtdeogmbfgkepeaaGreatDoor
