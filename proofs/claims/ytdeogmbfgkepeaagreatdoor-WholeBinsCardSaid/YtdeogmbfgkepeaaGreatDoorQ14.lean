/- Contracts that WholeBins needs. Each tells its conditions. -/
import Derived.Test.YtdeogmbfgkepeaaGreatDoorQ12
import Derived.Test.YtdeogmbfgkepeaaGreatDoorQ13
set_option linter.unusedVariables false
set_option linter.unusedSimpArgs false
set_option maxRecDepth 100000
set_option maxHeartbeats 64000000
namespace Go.Proofs.YtdeogmbfgkepeaaGreatDoor
open Go.Proofs.Tryz
open Go.Value renaming int->O
open Go.IntKind renaming i64->J
section
open Go.RowKit HB HeapP Go.Maps CalP
namespace HB
structure But(X:Nat->Prop)(w w':World):Prop where
 os:w'.os=w.os
 tape:w'.tape=w.tape
 output:w'.output=w.output
 size:w.heap.size<=w'.heap.size
 block:∀ k,k<w.heap.size->¬ X k->w'.heap[k]?=w.heap[k]?
section
variable{X Y:Nat->Prop}{w w1 w':World}{p g B:Nat}{m row:Option Nat}
theorem But.refl(X:Nat->Prop)(w:World):But X w w:=⟨rfl,rfl,rfl,fi,fun _ _ _=>rfl⟩
theorem But.trans(h:But X w w1)(k:But Y w1 w')(hs:∀ i,i<w.heap.size->Y i->X i):But X w w':=
 ⟨k.os.trans h.os,k.tape.trans h.tape,k.output.trans h.output,Nat.le_trans h.size k.size,fun i hi hx=>(k.block i (by have:=h.size;omega) (fun hy=>hx (hs i hi hy))).trans (h.block i hi hx)⟩
theorem But.of_below(h:fj w w'):But X w w':=⟨h.os,h.tape,h.output,h.size,fun k hk _=>h.block k hk⟩
theorem But.then_(h:But X w w1)(hb:fj w1 w'):But X w w':=h.trans (Y:=X) (But.of_below hb) (fun _ _ h=>h)
theorem But.of_grown(h:w.grownBy w' row)(hx:∀ k,row=some k->X k):But X w w':=⟨h.os,h.tape,h.output,h.size,fun k hk h1=>h.block k hk (fun h2=>h1 (hx k h2.symm))⟩
theorem But.grown(h:But X w w1)(hg:w1.grownBy w' row)(hx:∀ k,row=some k->k<w.heap.size->X k):But X w w':=
 h.trans (Y:=fun k=>row=some k) (But.of_grown hg fun _ h=>h) (fun i hi hy=>hx i hy hi)
theorem But.of_only(h:Only p g w w')(hp:X p)(hg:X g):But X w w':=
 ⟨h.os,h.tape,h.output,h.size,fun k hk h1=>h.block k hk (fun e=>h1 (e▸hp)) (fun e=>h1 (e▸hg))⟩
theorem But.set(h:But X w w'){a:Addr}(ha:X a.block\/w.heap.size<=a.block)(u:Value):But X w (w'.setCell a u):=
 ⟨h.os,h.tape,h.output,by have:=h.size;simpa using this,fun k hk h1=>by
  rw[Below.heap_setCell _ _ _ _ (by
   intro e;subst e;rcases ha with h2|h2
   ·exact h1 h2
   ·omega)]
  exact h.block k hk h1⟩
theorem But.below(h:But X w w')(hX:∀ k,X k->B<=k)(hB:B<=w.heap.size):Below B w w':=
 ⟨h.os,h.tape,h.output,h.size,fun k hk=>h.block k (by omega) (fun h1=>by have:=hX k h1;omega)⟩
theorem But.mono(h:But X w w')(hs:∀ i,i<w.heap.size->X i->Y i):But Y w w':=
 ⟨h.os,h.tape,h.output,h.size,fun i hi hy=>h.block i hi (fun hx=>hy (hs i hi hx))⟩
theorem But.cell(h:But X w w'){a:Addr}{u:Value}(hc:w.cell? a=some u)(hx:¬ X a.block):w'.cell? a=some u:=by
 have hk:=World.block_lt_of_cell? w a hc;have:=h.block a.block hk hx;unfold World.cell? at*;rw[this];exact hc
def RdB(w:World)(X:Nat->Prop)(A:Option Addr)(n:Nat)(l:List En):Prop:=Rd w w.heap.size 3 A n (l.flatMap ZT)/\(0<n->∀ a,A=some a->¬ X a.block)
theorem RdB.but{A:Option Addr}{n:Nat}{l:List En}(h:RdB w X A n l)(ho:But X w w')(hg:∀ i,i<w.heap.size->Y i->X i):RdB w' Y A n l:=by
 obtain⟨⟨h1,h2⟩,h3⟩:=h;refine⟨⟨h1,fun hn=>?_⟩,fun hn a ha=>?_⟩
 ·obtain⟨b,off,rfl,hb,hc⟩:=h2 hn;have:=h3 hn _ rfl;exact⟨b,off,rfl,Nat.lt_of_lt_of_le hb ho.size,fun j u hu=>ho.cell (a:=⟨b,off+j,none⟩) (hc j u hu) this⟩
 ·obtain⟨b,off,hA,hb,hc⟩:=h2 hn;have:=h3 hn _ ha;rw[hA]at ha;injection ha with ha;subst ha;exact fun hy=>this (hg _ hb hy)
theorem RdB.fresh{A:Option Addr}{base c:Nat}{e:TypeId}{l:List En}(h:Own w base e 3 ZT (.slice A l.length c) l)(hX:∀ k,base<=k->¬ X k):RdB w X A l.length l:=by
 refine⟨Rd.own h.row,fun hn a ha=>?_⟩;subst ha;obtain⟨b,cap,hv,hb,_⟩:=h.at_ hn;simp only[Value.slice.injEq,Option.some.injEq]at hv;obtain⟨rfl,_⟩:=hv;exact hX _ hb
theorem RdB.cut{A:Option Addr}{n:Nat}{l:List En}(h:RdB w X A n l){k cap:Nat}(hk:k<=n)(hc:n<=cap):RdB w X (if cap=k then A else A.map (·.add (k*3))) (n-k) (l.drop k):=by
 refine⟨by have:=h.1.cut hk hc;rwa [qm jD]at this,fun hn a ha=>?_⟩;have h2:0<n:=by omega
 rw[if_neg (by omega)]at ha;cases A with
 |none=>cases ha
 |some ad=>
  simp only[Option.map_some,Option.some.injEq]at ha;subst ha;have:=h.2 h2 _ rfl;have hb:(ad.add (k*3)).block=ad.block:=by unfold Addr.add;split<;>rfl
  rw[hb];exact this
end
end HB
namespace CalP
def Xb(p g:Nat)(m:Option Nat)(k:Nat):Prop:=k=p\/k=g\/m=some k
abbrev Fr:=Nat->Option Value×Bool
structure Cs(w:World)(p:Nat)(F:Fr)(g:Nat)(m:Option Nat)(n:Nat)(L l:List En):Prop where
 hp:Hp w p g L
 mc:w.cell? ⟨p,3,none⟩=some (.map m)
 mf:w.frozen? ⟨p,3,none⟩=false
 ch:Ch L l
 mp:Mp w m n l
 ne:∀ b,m=some b->b≠p/\b≠g
 re:∀ o,o≠2->o≠3->w.cell? ⟨p,o,none⟩=(F o).1/\w.frozen? ⟨p,o,none⟩=(F o).2
section
variable{w w':World}{p g n:Nat}{F:Fr}{m:Option Nat}{L l:List En}
theorem Cs.pl(h:Cs w p F g m n L l):p<w.heap.size:=h.hp.pl
theorem Cs.below(h:Cs w p F g m n L l)(hb:fj w w'):Cs w' p F g m n L l:=
 ⟨h.hp.below hb,zf hb h.mc,(hb.frozen (p:=⟨p,3,none⟩) h.pl).trans h.mf,h.ch,h.mp.below hb,h.ne,fun o h1 h2=>⟨(hb.cell (p:=⟨p,o,none⟩) h.pl).trans (h.re o h1 h2).1,(hb.frozen (p:=⟨p,o,none⟩) h.pl).trans (h.re o h1 h2).2⟩⟩
theorem Cs.xlt(h:Cs w p F g m n L l){k:Nat}(hk:Xb p g m k):k<w.heap.size:=by
 rcases hk with rfl|rfl|hk
 ·exact h.pl
 ·exact h.hp.gl
 ·exact h.mp.lt hk
theorem Cs.mapped{n':Nat}{l':List En}(h:Cs w p F g m n L l)(hg:w.grownBy w' m)(hmp:Mp w' m n' l')(hch:Ch L l'):Cs w' p F g m n' L l':=by
 have hp:some p≠m:=fun e=>(h.ne p e.symm).1 rfl
 have hgg:some g≠m:=fun e=>(h.ne g e.symm).2 rfl
 have hb:=hg.block p h.pl hp;exact⟨h.hp.grown hg hp hgg,(World.cell?_of_block (a:=⟨p,3,none⟩) hb).trans h.mc,(World.frozen?_of_block (a:=⟨p,3,none⟩) hb).trans h.mf,hch,hmp,h.ne,fun o h1 h2=>⟨(World.cell?_of_block (a:=⟨p,o,none⟩) hb).trans (h.re o h1 h2).1,(World.frozen?_of_block (a:=⟨p,o,none⟩) hb).trans (h.re o h1 h2).2⟩⟩
end
end CalP
theorem kh(k i:Int)(w:World):Calls prog 178 #[O J k,O J i] w (fk (.agg #[O J k,O J i]) w):=by
 go_enter func178,ntmps178;go_wp2_with fail
 go_returns
 exact⟨rfl,fh.alloc fi _⟩
def Told(l:List En)(k i c:Int)(ok:Bool):Prop:=(ok=true/\∃ e∈l,e.k=k/\e.i=i/\e.t=c)\/(ok=false/\c=0/\∀ e∈l,¬(e.k=k/\e.i=i))
theorem CalP.Told.fun_{l:List En}(hu:Uq l){k i c c':Int}{ok ok':Bool}(h:Told l k i c ok)(h':Told l k i c' ok'):c=c'/\ok=ok':=by
 rcases h with⟨rfl,e,he,h1,h2,h3⟩|⟨rfl,rfl,h1⟩<;>rcases h' with⟨rfl,e',he',h1',h2',h3'⟩|⟨rfl,rfl,h1'⟩
 ·have:=hu.same he he' (by rw[h1,h1']) (by rw[h2,h2']);subst this;exact⟨h3.symm.trans h3',rfl⟩
 ·exact absurd ⟨h1,h2⟩ (h1' e he)
 ·exact absurd ⟨h1',h2'⟩ (h1 e' he')
 ·exact⟨rfl,rfl⟩
theorem CalP.Cs.look{w:World}{p g n:Nat}{F:Fr}{m:Option Nat}{L l:List En}(h:Cs w p F g m n L l){k i:Int}(hk:jX k)(hi:jX i):
  ∃c ok,Told l k i c ok/\∀ w',fj w w'->(Instr.lookup MT (.map m) (.agg #[O J k,O J i]) true).run prog w'=.ok (.tuple #[O J c,.bool ok]) w':=by
 obtain⟨c,ok,-,hT⟩:=h.mp.look h.ch.uq hk hi;refine⟨c,ok,hT,fun w' hb=>?_⟩;obtain⟨c',ok',hrun,hT'⟩:=(h.mp.below hb).look h.ch.uq hk hi;obtain⟨rfl,rfl⟩:=Told.fun_ h.ch.uq hT hT';exact hrun
theorem WE{F:Fr}(p g n:Nat)(m:Option Nat)(L l:List En)(k i:Int)(w:World)(h:Cs w p F g m n L l)(hk:jX k)(hi:jX i):
  Calls prog 246 #[.pointer (some ⟨p,2,none⟩),O J k,O J i] w fun e w'=>(∃c ok,e=.returned (.bool ok)/\Told l k i c ok)/\Cs w' p F g m n L (wo l k i)/\But (Xb p g m) w w':=by
 have c1:=h.mc;obtain⟨c,ok,hT,hrun⟩:=h.look hk hi;have HT:=ze hT;have HR:=ze hrun;have HC:=ze h;clear h hT hrun;go_enter func246,ntmps246;go_wp2_with fail
 go_region_held3 (fun w'=>w'.cell? ⟨p,3,none⟩=some (.map m)/\(Instr.lookup 143 (.map m) (.agg #[O J k,O J i]) true).run prog w'=.ok (.tuple #[O J c,.bool ok]) w'/\fj w w')
  (first|(go_split_ands;exact⟨zf hb4 ‹_›,HR.o _ ((‹fj w _›).trans (hb4.mono (‹fj w _›).size)),(‹fj w _›).trans (hb4.mono (‹fj w _›).size)⟩)|(exact⟨c1,HR.o _ fh.drew,fh.drew⟩)|(go_split_ands;exact⟨‹_›,‹_›,‹_›⟩))
  (first|(go_at_call 178;refine(kh k i _).mono ?_;rintro e w4 ⟨rfl,hb4⟩))
 go_wp2_with fail;have HB:=ze (show fj w w4 from by go_split_ands;assumption);have c4:w4.cell? ⟨p,3,none⟩=some (.map m):=by go_split_ands;assumption
 go_region_with (go_at_call 178;refine(kh k i _).mono ?_;rintro e w5 ⟨rfl,hb5⟩;have hb:=HB.o.drew.trans (hb5.mono HB.o.size);obtain⟨w6,hrun6,hmp6,hgr6⟩:=(HC.o.mp.below hb).drop HC.o.ch.uq HC.o.ch.wfl hk hi 0;have c5:=zf hb HC.o.mc;have HM6:=ze hmp6;have HG6:=ze hgr6;have HB5:=ze hb;clear hmp6 hgr6 hb hb5)
 all_goals
  go_wp2_with fail;go_ret;exact⟨⟨c,ok,rfl,HT.o⟩,(HC.o.below HB5.o).mapped HG6.o HM6.o (HC.o.ch.drop k i),(But.of_below HB5.o).grown HG6.o (fun q hq _=>.inr (.inr hq))⟩
end
section
namespace HB
open Go.RowKit
def Bx(w:World)(q:Nat)(l:List Value):Prop:=∀ j u,l[j]?=some u->w.cell? ⟨q,j,none⟩=some u/\w.frozen? ⟨q,j,none⟩=false
section
variable{w w':World}{q D:Nat}{l:List Value}
theorem Bx.new(w:World)(l:List Value)(ty:TypeId):Bx (w.alloc (.cells l.toArray ty)) w.heap.size l:=fun j u hu=>
 ⟨by rw[cell_of_row _ w.heap.size j l.toArray ty (0,0) (heap_alloc_new w _)];simpa using hu,World.frozen?_alloc_at _ _ _ _ rfl⟩
theorem Bx.below(h:Bx w q l)(hb:Below D w w')(hq:q<D):Bx w' q l:=fun j u hu=>
 ⟨(hb.cell (p:=⟨q,j,none⟩) hq).trans (h j u hu).1,(hb.frozen (p:=⟨q,j,none⟩) hq).trans (h j u hu).2⟩
theorem Bx.block(h:Bx w q l)(hb:w'.heap[q]?=w.heap[q]?):Bx w' q l:=fun j u hu=>
 ⟨(World.cell?_of_block (a:=⟨q,j,none⟩) hb).trans (h j u hu).1,(World.frozen?_of_block (a:=⟨q,j,none⟩) hb).trans (h j u hu).2⟩
theorem Bx.lt(h:Bx w q l)(hl:0<l.length):q<w.heap.size:=World.block_lt_of_cell? w ⟨q,0,none⟩ (h 0 _ (List.getElem?_eq_getElem hl)).1
theorem Bx.but{X:Nat->Prop}(h:Bx w q l)(hb:But X w w')(hq:q<w.heap.size)(hx:¬ X q):Bx w' q l:=h.block (hb.block q hq hx)
theorem Bx.drew(h:Bx w q l):Bx w.drew q l:=h
theorem Bx.drewN(h:Bx w q l)(n:Nat):Bx (w.drewN n) q l:=h
theorem Bx.alloc(h:Bx w q l)(hl:0<l.length)(o:Obj):Bx (w.alloc o) q l:=h.below (fh.alloc fi o) (h.lt hl)
theorem Bx.setOther(h:Bx w q l){a:Addr}(ha:a.block≠q)(u:Value):Bx (w.setCell a u) q l:=h.block (Below.heap_setCell _ _ _ _ (fun e=>ha e.symm))
theorem Bx.set(h:Bx w q l)(i:Nat)(v:Value):Bx (w.setCell ⟨q,i,none⟩ v) q (l.set i v):=fun j u hu=>by
 rw[World.frozen?_setCell];by_cases hj:i=j
 ·subst hj;rw[List.getElem?_set]at hu;split at hu
  ·split at hu
   ·rename_i hl;cases hu;have:=h i _ (List.getElem?_eq_getElem hl);exact⟨World.cell?_setCell_same _ _ _ this.1,this.2⟩
   ·cases hu
  ·rename_i hn;exact absurd rfl hn
 ·rw[List.getElem?_set_ne hj]at hu;have:=h j u hu;exact⟨(World.cell?_setCell_other w _ _ _ (by intro e;injection e with _ e _;omega)).trans this.1,this.2⟩
theorem Bx.two(w:World)(l m:List Value)(ty ty':TypeId)(hl:0<l.length):Bx ((w.alloc (.cells l.toArray ty)).alloc (.cells m.toArray ty')) w.heap.size l/\Bx ((w.alloc (.cells l.toArray ty)).alloc (.cells m.toArray ty')) (w.heap.size+1) m:=by
 have hz:(w.alloc (.cells l.toArray ty)).heap.size=w.heap.size+1:=by simp
 refine⟨(Bx.new w l ty).alloc hl _,?_⟩;have:=Bx.new (w.alloc (.cells l.toArray ty)) m ty'
 rwa [hz]at this
theorem Bx.at_size{w:World}{l:List Value}{ty:TypeId}{q:Nat}(hq:w.heap.size=q):Bx (w.alloc (.cells l.toArray ty)) q l:=hq▸Bx.new w l ty
end
theorem Bx.o1{w:World}{q:Nat}{v0:Value}(h:Bx w q [v0]):(w.cell? ⟨q,0,none⟩=some v0)/\(w.frozen? ⟨q,0,none⟩=false):=
 ⟨(h 0 _ rfl).1,(h 0 _ rfl).2⟩
theorem Bx.o2{w:World}{q:Nat}{v0 v1:Value}(h:Bx w q [v0,v1]):(w.cell? ⟨q,0,none⟩=some v0/\w.cell? ⟨q,1,none⟩=some v1)/\(w.frozen? ⟨q,0,none⟩=false/\w.frozen? ⟨q,1,none⟩=false):=
 ⟨⟨(h 0 _ rfl).1,(h 1 _ rfl).1⟩,⟨(h 0 _ rfl).2,(h 1 _ rfl).2⟩⟩
theorem Bx.o3{w:World}{q:Nat}{v0 v1 v2:Value}(h:Bx w q [v0,v1,v2]):(w.cell? ⟨q,0,none⟩=some v0/\w.cell? ⟨q,1,none⟩=some v1/\w.cell? ⟨q,2,none⟩=some v2)/\(w.frozen? ⟨q,0,none⟩=false/\w.frozen? ⟨q,1,none⟩=false/\w.frozen? ⟨q,2,none⟩=false):=
 ⟨⟨(h 0 _ rfl).1,(h 1 _ rfl).1,(h 2 _ rfl).1⟩,⟨(h 0 _ rfl).2,(h 1 _ rfl).2,(h 2 _ rfl).2⟩⟩
theorem Bx.o4{w:World}{q:Nat}{v0 v1 v2 v3:Value}(h:Bx w q [v0,v1,v2,v3]):(w.cell? ⟨q,0,none⟩=some v0/\w.cell? ⟨q,1,none⟩=some v1/\w.cell? ⟨q,2,none⟩=some v2/\w.cell? ⟨q,3,none⟩=some v3)/\(w.frozen? ⟨q,0,none⟩=false/\w.frozen? ⟨q,1,none⟩=false/\w.frozen? ⟨q,2,none⟩=false/\w.frozen? ⟨q,3,none⟩=false):=
 ⟨⟨(h 0 _ rfl).1,(h 1 _ rfl).1,(h 2 _ rfl).1,(h 3 _ rfl).1⟩,⟨(h 0 _ rfl).2,(h 1 _ rfl).2,(h 2 _ rfl).2,(h 3 _ rfl).2⟩⟩
theorem Bx.o5{w:World}{q:Nat}{v0 v1 v2 v3 v4:Value}(h:Bx w q [v0,v1,v2,v3,v4]):(w.cell? ⟨q,0,none⟩=some v0/\w.cell? ⟨q,1,none⟩=some v1/\w.cell? ⟨q,2,none⟩=some v2/\w.cell? ⟨q,3,none⟩=some v3/\w.cell? ⟨q,4,none⟩=some v4)/\(w.frozen? ⟨q,0,none⟩=false/\w.frozen? ⟨q,1,none⟩=false/\w.frozen? ⟨q,2,none⟩=false/\w.frozen? ⟨q,3,none⟩=false/\w.frozen? ⟨q,4,none⟩=false):=
 ⟨⟨(h 0 _ rfl).1,(h 1 _ rfl).1,(h 2 _ rfl).1,(h 3 _ rfl).1,(h 4 _ rfl).1⟩,⟨(h 0 _ rfl).2,(h 1 _ rfl).2,(h 2 _ rfl).2,(h 3 _ rfl).2,(h 4 _ rfl).2⟩⟩
theorem Bx.o6{w:World}{q:Nat}{v0 v1 v2 v3 v4 v5:Value}(h:Bx w q [v0,v1,v2,v3,v4,v5]):(w.cell? ⟨q,0,none⟩=some v0/\w.cell? ⟨q,1,none⟩=some v1/\w.cell? ⟨q,2,none⟩=some v2/\w.cell? ⟨q,3,none⟩=some v3/\w.cell? ⟨q,4,none⟩=some v4/\w.cell? ⟨q,5,none⟩=some v5)/\(w.frozen? ⟨q,0,none⟩=false/\w.frozen? ⟨q,1,none⟩=false/\w.frozen? ⟨q,2,none⟩=false/\w.frozen? ⟨q,3,none⟩=false/\w.frozen? ⟨q,4,none⟩=false/\w.frozen? ⟨q,5,none⟩=false):=
 ⟨⟨(h 0 _ rfl).1,(h 1 _ rfl).1,(h 2 _ rfl).1,(h 3 _ rfl).1,(h 4 _ rfl).1,(h 5 _ rfl).1⟩,⟨(h 0 _ rfl).2,(h 1 _ rfl).2,(h 2 _ rfl).2,(h 3 _ rfl).2,(h 4 _ rfl).2,(h 5 _ rfl).2⟩⟩
theorem Bx.o7{w:World}{q:Nat}{v0 v1 v2 v3 v4 v5 v6:Value}(h:Bx w q [v0,v1,v2,v3,v4,v5,v6]):(w.cell? ⟨q,0,none⟩=some v0/\w.cell? ⟨q,1,none⟩=some v1/\w.cell? ⟨q,2,none⟩=some v2/\w.cell? ⟨q,3,none⟩=some v3/\w.cell? ⟨q,4,none⟩=some v4/\w.cell? ⟨q,5,none⟩=some v5/\w.cell? ⟨q,6,none⟩=some v6)/\(w.frozen? ⟨q,0,none⟩=false/\w.frozen? ⟨q,1,none⟩=false/\w.frozen? ⟨q,2,none⟩=false/\w.frozen? ⟨q,3,none⟩=false/\w.frozen? ⟨q,4,none⟩=false/\w.frozen? ⟨q,5,none⟩=false/\w.frozen? ⟨q,6,none⟩=false):=
 ⟨⟨(h 0 _ rfl).1,(h 1 _ rfl).1,(h 2 _ rfl).1,(h 3 _ rfl).1,(h 4 _ rfl).1,(h 5 _ rfl).1,(h 6 _ rfl).1⟩,⟨(h 0 _ rfl).2,(h 1 _ rfl).2,(h 2 _ rfl).2,(h 3 _ rfl).2,(h 4 _ rfl).2,(h 5 _ rfl).2,(h 6 _ rfl).2⟩⟩
theorem Bx.o13{w:World}{q:Nat}{v0 v1 v2 v3 v4 v5 v6 v7 v8 v9 v10 v11 v12:Value}(h:Bx w q [v0,v1,v2,v3,v4,v5,v6,v7,v8,v9,v10,v11,v12]):(w.cell? ⟨q,0,none⟩=some v0/\w.cell? ⟨q,1,none⟩=some v1/\w.cell? ⟨q,2,none⟩=some v2/\w.cell? ⟨q,3,none⟩=some v3/\w.cell? ⟨q,4,none⟩=some v4/\w.cell? ⟨q,5,none⟩=some v5/\w.cell? ⟨q,6,none⟩=some v6/\w.cell? ⟨q,7,none⟩=some v7/\w.cell? ⟨q,8,none⟩=some v8/\w.cell? ⟨q,9,none⟩=some v9/\w.cell? ⟨q,10,none⟩=some v10/\w.cell? ⟨q,11,none⟩=some v11/\w.cell? ⟨q,12,none⟩=some v12)/\(w.frozen? ⟨q,0,none⟩=false/\w.frozen? ⟨q,1,none⟩=false/\w.frozen? ⟨q,2,none⟩=false/\w.frozen? ⟨q,3,none⟩=false/\w.frozen? ⟨q,4,none⟩=false/\w.frozen? ⟨q,5,none⟩=false/\w.frozen? ⟨q,6,none⟩=false/\w.frozen? ⟨q,7,none⟩=false/\w.frozen? ⟨q,8,none⟩=false/\w.frozen? ⟨q,9,none⟩=false/\w.frozen? ⟨q,10,none⟩=false/\w.frozen? ⟨q,11,none⟩=false/\w.frozen? ⟨q,12,none⟩=false):=
 ⟨⟨(h 0 _ rfl).1,(h 1 _ rfl).1,(h 2 _ rfl).1,(h 3 _ rfl).1,(h 4 _ rfl).1,(h 5 _ rfl).1,(h 6 _ rfl).1,(h 7 _ rfl).1,(h 8 _ rfl).1,(h 9 _ rfl).1,(h 10 _ rfl).1,(h 11 _ rfl).1,(h 12 _ rfl).1⟩,⟨(h 0 _ rfl).2,(h 1 _ rfl).2,(h 2 _ rfl).2,(h 3 _ rfl).2,(h 4 _ rfl).2,(h 5 _ rfl).2,(h 6 _ rfl).2,(h 7 _ rfl).2,(h 8 _ rfl).2,(h 9 _ rfl).2,(h 10 _ rfl).2,(h 11 _ rfl).2,(h 12 _ rfl).2⟩⟩
structure Boxes(w W:World)(K:Nat)(L:List (Nat×List Value))(qr:Nat):Prop where
 b:fj w W
 z:w.heap.size+K<W.heap.size
 l:∀ p∈L,p.1<=w.heap.size+K/\p.1≠qr/\Bx W p.1 p.2
 q:w.heap.size<=qr/\qr<=w.heap.size+K
section
variable{w W W':World}{K:Nat}{L:List (Nat×List Value)}{qr:Nat}
theorem Boxes.step(hb:fj W W')(h:Boxes w W K L qr):Boxes w W' K L qr:=by
 have hz:=h.z;have hs:=hb.size;have hq:=h.q;refine⟨h.b.trans (hb.mono (by omega)),by omega,fun p hp=>?_,hq⟩
 ·obtain⟨h1,h2,h3⟩:=h.l p hp;exact⟨h1,h2,h3.below hb (by omega)⟩
theorem Boxes.drew(h:Boxes w W K L qr):Boxes w W.drew K L qr:=h.step fh.drew
theorem Boxes.set(i:Nat)(u:Value)(h:Boxes w W K L qr):Boxes w (W.setCell ⟨qr,i,none⟩ u) K L qr:=by
 have hq:=h.q;refine⟨h.b.setCell (p:=⟨qr,i,none⟩) hq.1 u,by simpa using h.z,fun p hp=>?_,hq⟩
 ·obtain⟨h1,h2,h3⟩:=h.l p hp;exact⟨h1,h2,h3.setOther (a:=⟨qr,i,none⟩) (fun e=>h2 e.symm) u⟩
theorem Boxes.cell(h:Boxes w W K L qr){q:Nat}{l:List Value}(hm:(q,l)∈L):Bx W q l:=(h.l _ hm).2.2
theorem Boxes.rest(h:Boxes w W K L qr){l:List Value}(hr:Bx W qr l)(hb:fj W W'):Bx W' qr l:=hr.below hb (by have:=h.z;have:=h.q;omega)
end
end HB
end
section
open Go.RowKit HB HeapP Go.Maps CalP
namespace HB
def GC(p:Nat)(w:World):Nat:=match w.cell? ⟨p,2,none⟩with|some v=>di v|none=>0
theorem Hp.len{w:World}{p g:Nat}{L:List En}(h:Hp w p g L):GC p w=L.length:=by
 obtain⟨A,c,h1,_⟩:=h.sl;unfold GC;rw[h1];rfl
theorem Trio.but{w w':World}{X:Nat->Prop}{r:Nat}{x y z:Value}(h:Trio w r x y z)(ho:But X w w')(hx:¬ X r):Trio w' r x y z:=by
 have hb:=ho.block r h.lt hx;have hc:∀ o,w'.cell? ⟨r,o,none⟩=w.cell? ⟨r,o,none⟩:=fun o=>World.cell?_of_block (a:=⟨r,o,none⟩) hb
 have hf:∀ o,w'.frozen? ⟨r,o,none⟩=w.frozen? ⟨r,o,none⟩:=fun o=>World.frozen?_of_block (a:=⟨r,o,none⟩) hb
 exact⟨(hc 0).trans h.c0,(hc 1).trans h.c1,(hc 2).trans h.c2,(hf 0).trans h.f0,(hf 1).trans h.f1,(hf 2).trans h.f2,Nat.lt_of_lt_of_le h.lt ho.size⟩
end HB
namespace CalP
theorem Cs.set_{w w1 w2:World}{p g g' n n':Nat}{F:Fr}{m:Option Nat}{L L' l l1 l':List En}(h:Cs w p F g m n L l)(hg:w.grownBy w1 m)(hmp:Mp w1 m n' l1)(hp':Hp w2 p g' L')(ho:Only p g w1 w2)
  (hg':g'=g\/w1.heap.size<=g')(hch:Ch L' l')(hperm:l1.Perm l'):Cs w2 p F g' m n' L' l':=by
 have hp:some p≠m:=fun e=>(h.ne p e.symm).1 rfl
 have hb:=hg.block p h.pl hp;have hr:=ho.rest (Nat.lt_of_lt_of_le h.pl hg.size) 3 (by omega);refine⟨hp',hr.1.trans ((World.cell?_of_block (a:=⟨p,3,none⟩) hb).trans h.mc),hr.2.trans ((World.frozen?_of_block (a:=⟨p,3,none⟩) hb).trans h.mf),hch,(hmp.only ho h.ne).perm hperm,fun b hb'=>⟨(h.ne b hb').1,?_⟩,fun o h1 h2=>⟨((ho.rest (Nat.lt_of_lt_of_le h.pl hg.size) o h1).1.trans (World.cell?_of_block (a:=⟨p,o,none⟩) hb)).trans (h.re o h1 h2).1,((ho.rest (Nat.lt_of_lt_of_le h.pl hg.size) o h1).2.trans (World.frozen?_of_block (a:=⟨p,o,none⟩) hb)).trans (h.re o h1 h2).2⟩⟩;rcases hg' with rfl|hg'
 ·exact(h.ne b hb').2
 ·have:=hmp.lt hb';omega
theorem Xu(w:World)(row:Option Nat):w.grownBy w row:=⟨rfl,rfl,rfl,fi,fun _ _ _=>rfl⟩
theorem Cs.popped{w w2:World}{p g n:Nat}{F:Fr}{m:Option Nat}{L L' l:List En}(h:Cs w p F g m n L l)(hp':Hp w2 p g L')(ho:Only p g w w2)(hch:Ch L' l):Cs w2 p F g m n L' l:=
 h.set_ (Xu w m) h.mp hp' ho (.inl rfl) hch (List.Perm.refl _)
theorem Cs.setNew{w:World}{p g n:Nat}{F:Fr}{m:Option Nat}{L l:List En}(h:Cs w p F g m n L l){a:Addr}(ha:¬ Xb p g m a.block)(u:Value):Cs (w.setCell a u) p F g m n L l:=by
 have h1:a.block≠p:=fun e=>ha (.inl e)
 have h2:a.block≠g:=fun e=>ha (.inr (.inl e))
 have hb:(w.setCell a u).heap[p]?=w.heap[p]?:=Below.heap_setCell _ _ _ _ (fun e=>h1 e.symm);refine⟨h.hp.setOther h1 h2 u,(World.cell?_of_block (a:=⟨p,3,none⟩) hb).trans h.mc,(World.frozen?_of_block (a:=⟨p,3,none⟩) hb).trans h.mf,h.ch,?_,h.ne,fun o h1 h2=>⟨(World.cell?_of_block (a:=⟨p,o,none⟩) hb).trans (h.re o h1 h2).1,(World.frozen?_of_block (a:=⟨p,o,none⟩) hb).trans (h.re o h1 h2).2⟩⟩;refine h.mp.kept (row:=some a.block) ⟨rfl,rfl,rfl,by simp,fun k hk hne=>Below.heap_setCell _ _ _ _ (fun e=>hne (by rw[e]))⟩ (fun b hb' e=>ha (.inr (.inr ?_)));rw[hb'];exact e
theorem bi{L l:List En}(h:Ch L l){c:Int}{ok:Bool}(ht:Told l (zA L).k (zA L).i c ok):(ok=true/\c=(zA L).t/\zA L∈l)\/((ok=false\/c≠(zA L).t)/\zA L∉l):=by
 rcases ht with⟨rfl,e,he,h1,h2,h3⟩|⟨rfl,rfl,h1⟩
 ·by_cases hc:c=(zA L).t
  ·refine .inl ⟨rfl,hc,?_⟩;have:e=zA L:=by
    obtain⟨a,b,d⟩:=e;have h4:a=(zA L).t:=h3.trans hc;have h1':b=(zA L).k:=h1;have h2':d=(zA L).i:=h2;rw[h4,h1',h2']
   rw[<-this];exact he
  ·refine .inr ⟨.inr hc,fun hm=>hc ?_⟩;have:=h.uq.same he hm h1 h2;rw[<-this];exact h3.symm
 ·exact .inr ⟨.inl rfl,fun hm=>h1 _ hm ⟨rfl,rfl⟩⟩
theorem Cs.gone{w w1 w2 w3:World}{p g n n':Nat}{F:Fr}{m:Option Nat}{L L' l l':List En}(h:Cs w p F g m n L l)(hp':Hp w1 p g L')(ho:Only p g w w1)(hb:fj w1 w2)(hg:w2.grownBy w3 m)(hmp:Mp w3 m n' l')(hch:Ch L' l'):Cs w3 p F g m n' L' l':=by
 have hp:some p≠m:=fun e=>(h.ne p e.symm).1 rfl
 have hgg:some g≠m:=fun e=>(h.ne g e.symm).2 rfl
 have hr:=ho.rest h.pl 3 (by omega);have hpl:=Nat.lt_of_lt_of_le h.pl ho.size;have hk:=hg.block p (Nat.lt_of_lt_of_le hpl hb.size) hp;exact⟨(hp'.below hb).grown hg hp hgg,(World.cell?_of_block (a:=⟨p,3,none⟩) hk).trans (zf hb (hr.1.trans h.mc)),(World.frozen?_of_block (a:=⟨p,3,none⟩) hk).trans ((hb.frozen (p:=⟨p,3,none⟩) hpl).trans (hr.2.trans h.mf)),hch,hmp,h.ne,fun o h1 h2=>⟨(World.cell?_of_block (a:=⟨p,o,none⟩) hk).trans ((hb.cell (p:=⟨p,o,none⟩) hpl).trans ((ho.rest h.pl o h1).1.trans (h.re o h1 h2).1)),(World.frozen?_of_block (a:=⟨p,o,none⟩) hk).trans ((hb.frozen (p:=⟨p,o,none⟩) hpl).trans ((ho.rest h.pl o h1).2.trans (h.re o h1 h2).2))⟩⟩
end CalP
def CPeek(p:Nat)(F:Fr)(g n:Nat)(m:Option Nat)(L l:List En)(w:World)(e:Ending)(w':World):Prop:=
 e=.returned (.tuple #[.agg #[O J (zA l).t,O J (zA l).k,O J (zA l).i],.bool (decide (0<l.length))])/\∃ L',Cs w' p F g m n L' l/\(0<l.length->0<L'.length/\zA L'=zA l)/\L'.length<=L.length/\But (Xb p g m) w w'
theorem CPeek.back{p g n:Nat}{F:Fr}{m:Option Nat}{L L' l:List En}{w wr:World}(hC:Cs wr p F g m n L' l)(hO:But (Xb p g m) w wr)(hx:∀ k,Xb p g m k->k<w.heap.size)(hle:L'.length<=L.length)(hl:0<l.length->0<L'.length/\zA L'=zA l)(x y z:Value):
  ∃L2,Cs (((wr.setCell ⟨w.heap.size,0,none⟩ x).setCell ⟨w.heap.size,1,none⟩ y).setCell ⟨w.heap.size,2,none⟩ z) p F g m n L2 l/\(0<l.length->0<L2.length/\zA L2=zA l)/\L2.length<=L.length/\But (Xb p g m) w (((wr.setCell ⟨w.heap.size,0,none⟩ x).setCell ⟨w.heap.size,1,none⟩ y).setCell ⟨w.heap.size,2,none⟩ z):=by
 have hn:¬ Xb p g m w.heap.size:=fun h=>Nat.lt_irrefl _ (hx _ h)
 exact⟨L',((hC.setNew (a:=⟨w.heap.size,0,none⟩) hn x).setNew (a:=⟨w.heap.size,1,none⟩) hn y).setNew (a:=⟨w.heap.size,2,none⟩) hn z,hl,hle,
  ((hO.set (a:=⟨w.heap.size,0,none⟩) (.inr fi) x).set (a:=⟨w.heap.size,1,none⟩) (.inr fi) y).set (a:=⟨w.heap.size,2,none⟩) (.inr fi) z⟩
def em(p:Nat)(F:Fr)(g n N:Nat)(m:Option Nat)(l:List En)(w:World)(pe ok:Value)(wr:World):Prop:=
 ∃(L':List En)(q:Nat),pe=.pointer (some ⟨q,0,none⟩)/\ok=.bool (decide (0<L'.length))/\L'.length<=N/\Cs wr p F g m n L' l/\Trio wr w.heap.size (O J 0) (O J 0) (O J 0)/\Trio wr q (O J (zA L').t) (O J (zA L').k) (O J (zA L').i)/\w.heap.size<q/\But (Xb p g m) w wr
theorem kY{F:Fr}(p g n N:Nat)(m:Option Nat)(L l:List En)(w:World)(h:Cs w p F g m n L l)(hl:L.length=N)(hn:N<=1000000):
  Calls prog 180 #[.pointer (some ⟨p,2,none⟩)] w (CPeek p F g n m L l w):=by
 have HC:=ze h;have Hl:=ze hl;have HX:=ze (fun k(hk:Xb p g m k)=>h.xlt hk);have hpl:=h.pl;have hgl:=h.hp.gl;have HB0:=ze ((Below.refl w.heap.size w).alloc fi (.cells #[O J 0,O J 0,O J 0] 312));have HT0:=ze (Trio.new w 312 (O J 0) (O J 0) (O J 0));have HPK:=ze (vg p g L.length L _ (h.hp.below HB0.o) rfl (by omega));clear h hl;go_enter func180,ntmps180;go_wp2_with(go_at_call 216;refine(HPK.o).mono ?_;rintro e w1 ⟨rfl,hb1⟩;have HB1:=ze hb1;clear hb1);have HC3:=ze ((HC.o.below HB0.o).below (HB1.o.alloc HB1.o.size (.cells #[O J (zA L).t,O J (zA L).k,O J (zA L).i] 312)));have HR3:=ze (HT0.o.below (HB1.o.alloc HB1.o.size (.cells #[O J (zA L).t,O J (zA L).k,O J (zA L).i] 312)));have HT3:=ze (Trio.new w1 312 (O J (zA L).t) (O J (zA L).k) (O J (zA L).i));have HO3:=ze ((But.of_below (X:=Xb p g m) HB0.o).then_ (HB1.o.alloc HB1.o.size (.cells #[O J (zA L).t,O J (zA L).k,O J (zA L).i] 312)));have hqz:w.heap.size<w1.heap.size:=by have:=HB1.o.size;simp at this;omega
 clear HPK HB1 HB0 HT0;generalize w1.alloc (.cells #[O J (zA L).t,O J (zA L).k,O J (zA L).i] 312)=w3 at*;generalize w1.heap.size=q0 at*
 go_loopw [4,5] (fun pe ok wr=>em p F g n N m l w pe ok wr) (fun _ _ wr=>GC p wr)
 case atStart=>exact⟨L,q0,rfl,rfl,by rw[Hl.o];exact fi,HC3.o,HR3.o,HT3.o,hqz,HO3.o⟩
 case round=>
  obtain⟨L',q,rfl,rfl,hlo,hc',hrt,htr,hq,hon⟩:=hrel;have HC:=ze hc';have HR:=ze hrt;have HT:=ze htr;have HON:=ze hon;have HXL:=ze (fun k(hk:Xb p g m k)=>HX.o k hk);have hbw:=hon.size;have c1:=hc'.mc;clear hc' hrt htr hon HC3 HR3 HT3 HO3;obtain⟨t0,t1,t2,-,-,-,-⟩:=HT.o;obtain⟨r0,r1,r2,f0,f1,f2,hrl⟩:=HR.o;rcases Nat.eq_zero_or_pos L'.length with hz|hz
  ·have hd:decide (0<L'.length)=false:=by simp;exact List.eq_nil_of_length_eq_zero hz
   have hle:l=[]:=by
    cases l with
    |nil=>rfl
    |cons x t=>
     have:=List.length_pos_of_mem (HC.o.ch.sub x List.mem_cons_self);omega
   have HZ:=ze hz;have HLE:=ze hle;clear hz hle;rw[hd];clear hd;go_wp2_with fail;refine bodyPost_ret (by simp[results,Tryz.results180,go_sem, *];try rfl) rfl ?_;refine⟨by rw[HLE.o];rfl,CPeek.back HC.o HON.o HX.o (by rw[Hl.o];exact hlo) (fun h=>by rw[HLE.o]at h;simp at h) _ _ _⟩
  ·have hd:decide (0<L'.length)=true:=by simpa using hz
   have HZ:=ze hz;have hwt:=HC.o.ch.wf _ (List.mem_of_getElem? (ke hz));obtain⟨c,ok,hT,hrun⟩:=HC.o.look hwt.2.1 hwt.2.2;have HLV:=ze (bi HC.o.ch hT);have HRN:=ze hrun;rw[hd];clear hz hd hwt hT hrun;go_wp2_with fail
   go_region_held3 (fun w'=>w'.cell? ⟨p,3,none⟩=some (.map m)/\w'.cell? ⟨q,1,none⟩=some (O J (zA L').k)/\w'.cell? ⟨q,2,none⟩=some (O J (zA L').i)/\(Instr.lookup 143 (.map m) (.agg #[O J (zA L').k,O J (zA L').i]) true).run prog w'=.ok (.tuple #[O J c,.bool ok]) w'/\fj wr w')
    (first|(go_split_ands;exact⟨zf hb4 ‹_›,zf hb4 ‹_›,zf hb4 ‹_›,HRN.o _ ((‹fj wr _›).trans (hb4.mono (‹fj wr _›).size)),(‹fj wr _›).trans (hb4.mono (‹fj wr _›).size)⟩)|(exact⟨c1,t1,t2,HRN.o _ fh.drew,fh.drew⟩)|(go_split_ands;exact⟨‹_›,‹_›,‹_›,‹_›,‹_›⟩))
    (first|(go_at_call 178;refine(kh _ _ _).mono ?_;rintro e w4 ⟨rfl,hb4⟩))
   have HB4:=ze (show fj wr w4 from by go_split_ands;assumption);rename_i hH;clear hH hb4 t0 t1 t2 r0 r1 r2 f0 f1 f2 c1;have HC4:=ze (HC.o.below HB4.o);have HR4:=ze (HR.o.below HB4.o);have HT4:=ze (HT.o.below HB4.o);have HO4:=ze (HON.o.then_ HB4.o);have hz4:=HB4.o.size;obtain⟨t0,t1,t2,-,-,-,-⟩:=HT4.o;obtain⟨r0,r1,r2,f0,f1,f2,hrl⟩:=HR4.o;rcases HLV.o with⟨rfl,rfl,hm⟩|⟨hnl,hm⟩
   ·obtain⟨t,ht⟩:=HC4.o.ch.live HZ.o hm;have HTL:=ze (show zA l=zA L'/\0<l.length from by rw[ht];exact⟨rfl,by simp⟩);clear hm ht;go_wp2_with fail;refine bodyPost_ret (by simp[results,Tryz.results180,go_sem, *];try rfl) rfl ?_;refine⟨by rw[HTL.o.1,decide_eq_true HTL.o.2],CPeek.back HC4.o HO4.o HX.o (by rw[Hl.o];exact hlo) (fun _=>⟨HZ.o,HTL.o.1.symm⟩) _ _ _⟩
   ·have HNL:=ze hm;have HNE:=ze (show q≠p/\q≠g/\w.heap.size≠p/\w.heap.size≠g from by omega);have hpo:=QR p g L'.length L' w4 HC4.o.hp HC4.o.ch.heap rfl (by omega);rw[show decide (0<L'.length)=true from by simpa using HZ.o]at hpo;have HPO:=ze hpo;have hbr:ok=false\/(ok=true/\(c==(zA L').t)=false):=by
     rcases hnl with h|h
     ·exact .inl h
     ·cases ok with
      |false=>exact .inl rfl
      |true=>exact .inr ⟨rfl,by simpa using h⟩
    clear hm hnl hpo HRN HLV;rcases hbr with rfl|⟨rfl,hcc⟩
    ·go_wp2_with(first
      |(go_at_call 217;refine(HPO.o).mono ?_;rintro e8 w8 ⟨rfl,L8,hp8,hi8,h80,h81,ho8⟩;
        have H81:=ze (h81 HZ.o);have hz8:=ho8.size;have HC8:=ze (HC4.o.popped hp8 ho8 (HC4.o.ch.stale hi8 (h81 HZ.o) HNL.o));
        have HO8:=ze (HO4.o.trans (But.of_only (X:=Xb p g m) ho8 (.inl rfl) (.inr (.inl rfl))) (fun _ _ h=>h));
        have HT8:=ze (HT4.o.only ho8 HNE.o.1 HNE.o.2.1);have HR8:=ze (HR4.o.only ho8 HNE.o.2.2.1 HNE.o.2.2.2);
        clear hp8 hi8 h80 h81 ho8 t0 t1 t2 r0 r1 r2 f0 f1 f2;
        obtain⟨t0,t1,t2,-,-,-,-⟩:=HT8.o)
      |(go_at_call 216;refine(vg p g L8.length L8 _ (HC8.o.hp.below (fh.alloc fi (.cells #[O J (zA L').t,O J (zA L').k,O J (zA L').i] 312))) rfl (by have:=H81.o.length_eq;simp at this;omega)).mono ?_;rintro e9 w9 ⟨rfl,hb9⟩;
        have HB9:=ze hb9;clear hb9;
        have HT9:=ze ((Trio.new w8 312 (O J (zA L').t) (O J (zA L').k) (O J (zA L').i)).below HB9.o);
        obtain⟨u0,u1,u2,v0,v1,v2,hu⟩:=HT9.o))
     have hln:=H81.o.length_eq;simp only[List.length_cons]at hln;have hb89:fj w8 w9:=then_ ((Below.refl w8.heap.size w8).alloc fi (.cells #[O J (zA L').t,O J (zA L').k,O J (zA L').i] 312)) HB9.o (by simp);have hnx:¬ Xb p g m w8.heap.size:=fun h=>by have:=HX.o _ h;omega
     have hcs:=(((HC8.o.below hb89).setNew (a:=⟨w8.heap.size,0,none⟩) hnx (O J (zA L8).t)).setNew (a:=⟨w8.heap.size,1,none⟩) hnx (O J (zA L8).k)).setNew (a:=⟨w8.heap.size,2,none⟩) hnx (O J (zA L8).i);refine⟨⟨L8,w8.heap.size,rfl,rfl,by omega,hcs,(HR8.o.below hb89).grown (kg _ _ _ _ _) (fun h=>by injection h with h;omega),HT9.o.stored _ _ _,by omega,(HO8.o.then_ hb89).grown (kg _ _ _ _ _) (fun k hk hk2=>by injection hk with hk;omega)⟩,?_⟩;rw[hcs.hp.len,HC.o.hp.len];omega
    ·go_wp2_with(first
      |(go_at_call 217;refine(HPO.o).mono ?_;rintro e8 w8 ⟨rfl,L8,hp8,hi8,h80,h81,ho8⟩;
        have H81:=ze (h81 HZ.o);have hz8:=ho8.size;have HC8:=ze (HC4.o.popped hp8 ho8 (HC4.o.ch.stale hi8 (h81 HZ.o) HNL.o));
        have HO8:=ze (HO4.o.trans (But.of_only (X:=Xb p g m) ho8 (.inl rfl) (.inr (.inl rfl))) (fun _ _ h=>h));
        have HT8:=ze (HT4.o.only ho8 HNE.o.1 HNE.o.2.1);have HR8:=ze (HR4.o.only ho8 HNE.o.2.2.1 HNE.o.2.2.2);
        clear hp8 hi8 h80 h81 ho8 t0 t1 t2 r0 r1 r2 f0 f1 f2;
        obtain⟨t0,t1,t2,-,-,-,-⟩:=HT8.o)
      |(go_at_call 216;refine(vg p g L8.length L8 _ (HC8.o.hp.below (fh.alloc fi (.cells #[O J (zA L').t,O J (zA L').k,O J (zA L').i] 312))) rfl (by have:=H81.o.length_eq;simp at this;omega)).mono ?_;rintro e9 w9 ⟨rfl,hb9⟩;
        have HB9:=ze hb9;clear hb9;
        have HT9:=ze ((Trio.new w8 312 (O J (zA L').t) (O J (zA L').k) (O J (zA L').i)).below HB9.o);
        obtain⟨u0,u1,u2,v0,v1,v2,hu⟩:=HT9.o))
     have hln:=H81.o.length_eq;simp only[List.length_cons]at hln;have hb89:fj w8 w9:=then_ ((Below.refl w8.heap.size w8).alloc fi (.cells #[O J (zA L').t,O J (zA L').k,O J (zA L').i] 312)) HB9.o (by simp);have hnx:¬ Xb p g m w8.heap.size:=fun h=>by have:=HX.o _ h;omega
     have hcs:=(((HC8.o.below hb89).setNew (a:=⟨w8.heap.size,0,none⟩) hnx (O J (zA L8).t)).setNew (a:=⟨w8.heap.size,1,none⟩) hnx (O J (zA L8).k)).setNew (a:=⟨w8.heap.size,2,none⟩) hnx (O J (zA L8).i);refine⟨⟨L8,w8.heap.size,rfl,rfl,by omega,hcs,(HR8.o.below hb89).grown (kg _ _ _ _ _) (fun h=>by injection h with h;omega),HT9.o.stored _ _ _,by omega,(HO8.o.then_ hb89).grown (kg _ _ _ _ _) (fun k hk hk2=>by injection hk with hk;omega)⟩,?_⟩;rw[hcs.hp.len,HC.o.hp.len];omega
def CPop(p:Nat)(F:Fr)(g n:Nat)(m:Option Nat)(L l:List En)(w:World)(e:Ending)(w':World):Prop:=
 e=.returned (.tuple #[.agg #[O J (zA l).t,O J (zA l).k,O J (zA l).i],.bool (decide (0<l.length))])/\∃ L',Cs w' p F g m n L' (l.drop 1)/\L'.length<=L.length/\But (Xb p g m) w w'
theorem CPop.back{p g n:Nat}{F:Fr}{m:Option Nat}{L L' l:List En}{w wr:World}(hC:Cs wr p F g m n L' l)(hO:But (Xb p g m) w wr)(hx:∀ k,Xb p g m k->k<w.heap.size)(hle:L'.length<=L.length)(x y z:Value):
  ∃L2,Cs (((wr.setCell ⟨w.heap.size,0,none⟩ x).setCell ⟨w.heap.size,1,none⟩ y).setCell ⟨w.heap.size,2,none⟩ z) p F g m n L2 l/\L2.length<=L.length/\But (Xb p g m) w (((wr.setCell ⟨w.heap.size,0,none⟩ x).setCell ⟨w.heap.size,1,none⟩ y).setCell ⟨w.heap.size,2,none⟩ z):=by
 have hn:¬ Xb p g m w.heap.size:=fun h=>Nat.lt_irrefl _ (hx _ h)
 exact⟨L',((hC.setNew (a:=⟨w.heap.size,0,none⟩) hn x).setNew (a:=⟨w.heap.size,1,none⟩) hn y).setNew (a:=⟨w.heap.size,2,none⟩) hn z,hle,
  ((hO.set (a:=⟨w.heap.size,0,none⟩) (.inr fi) x).set (a:=⟨w.heap.size,1,none⟩) (.inr fi) y).set (a:=⟨w.heap.size,2,none⟩) (.inr fi) z⟩
theorem Yu{F:Fr}(p g n N:Nat)(m:Option Nat)(L l:List En)(w:World)(h:Cs w p F g m n L l)(hl:L.length=N)(hn:N<=1000000):
  Calls prog 181 #[.pointer (some ⟨p,2,none⟩)] w (CPop p F g n m L l w):=by
 have Hl:=ze hl;have HX:=ze (fun k(hk:Xb p g m k)=>h.xlt hk);have hpl:=h.pl;have hgl:=h.hp.gl;have HB0:=ze ((Below.refl w.heap.size w).alloc fi (.cells #[O J 0,O J 0,O J 0] 312));have HT0:=ze (Trio.new w 312 (O J 0) (O J 0) (O J 0));have HPK:=ze (kY p g n N m L l _ (h.below HB0.o) hl hn);clear h hl;go_enter func181,ntmps181;go_upto_region 2 with(go_at_call 180;refine(HPK.o).mono ?_;rintro e w1 ⟨rfl,L1,hc1,ht1,hl1,ho1⟩;have HC1:=ze hc1;have HT1:=ze ht1;have HL1:=ze hl1;have HO1:=ze ho1;clear hc1 ht1 hl1 ho1);have HC3:=ze (HC1.o.below (fh.alloc fi (.cells #[O J (zA l).t,O J (zA l).k,O J (zA l).i] 312)));have HNE0:=ze (show w.heap.size≠p/\w.heap.size≠g/\¬ Xb p g m w.heap.size from⟨by omega,by omega,fun h=>Nat.lt_irrefl _ (HX.o _ h)⟩);have hsz:=HO1.o.size;simp only[World.size_alloc]at hsz;have HR3:Hz (Trio (w1.alloc (.cells #[O J (zA l).t,O J (zA l).k,O J (zA l).i] 312)) w.heap.size (O J 0) (O J 0) (O J 0)):=ze (Trio.below (Trio.but HT0.o HO1.o HNE0.o.2.2) (fh.alloc fi _));have HT3:=ze (Trio.new w1 312 (O J (zA l).t) (O J (zA l).k) (O J (zA l).i));have HO3:=ze (((But.of_below (X:=Xb p g m) HB0.o).trans HO1.o (fun _ _ h=>h)).then_ (fh.alloc fi (.cells #[O J (zA l).t,O J (zA l).k,O J (zA l).i] 312)));clear HPK HC1 HB0 HT0 HO1;generalize w1.alloc (.cells #[O J (zA l).t,O J (zA l).k,O J (zA l).i] 312)=w3 at*;generalize w1.heap.size=q0 at*;have c1:=HC3.o.mc;obtain⟨t0,t1,t2,-,-,-,-⟩:=HT3.o;obtain⟨r0,r1,r2,f0,f1,f2,hrl⟩:=HR3.o;cases l with
 |nil=>
  go_wp2_with fail;refine bodyPost_ret (by simp[results,Tryz.results181,go_sem, *];try rfl) rfl ?_;exact⟨rfl,CPop.back HC3.o HO3.o HX.o HL1.o _ _ _⟩
 |cons a t=>
  obtain⟨hz,hta⟩:=HT1.o (by simp);have HZ:=ze hz;have HTA:=ze hta;have hpo:=QR p g L1.length L1 w3 HC3.o.hp HC3.o.ch.heap rfl (by rw[Hl.o]at HL1;have:=HL1.o;omega);have HPO:=ze hpo;have hwt:WC (zA (a::t)):=HC3.o.ch.wfl a List.mem_cons_self;have HL:=ze (show Ch L1 (zA L1::t) by rw[hta];exact HC3.o.ch);have hd:decide (0<(a::t).length)=true:=by simp
  have HBK:=ze (show(a::t).drop 1=t from rfl);have HTA2:=ze (show zA (a::t)=a from rfl);rw[hd];have HW:=ze hwt;clear hz hta hpo hwt hd;generalize zA (a::t)=x at*;go_upto_region 4 with(go_at_call 217;refine(HPO.o).mono ?_;rintro e w5 ⟨rfl,L5,hp5,hi5,h50,h51,ho5⟩;have HP5:=ze hp5;have HI5:=ze hi5;have H51:=ze (h51 HZ.o);have HO5:=ze ho5;have c5:w5.cell? ⟨p,3,none⟩=some (.map m):=(ho5.rest HC3.o.pl 3 (by omega)).1.trans HC3.o.mc;have HT5:=ze (HT3.o.only ho5 (by omega) (by omega));have HR5:=ze (HR3.o.only ho5 (by omega) (by omega));clear hp5 hi5 h50 h51 ho5);have HCX:=ze HC3.o;have HXW:=ze (fun W(h:fj w5 W)=>(HC3.o.mp.only HO5.o HC3.o.ne).below h);obtain⟨t0,t1,t2,-,-,-,-⟩:=HT5.o;obtain⟨r0,r1,r2,f0,f1,f2,hrl⟩:=HR5.o
  go_region_with (go_at_call 178;refine(kh x.k x.i _).mono ?_;rintro e w6 ⟨rfl,hb6⟩;have hb:fj w5 w6:=fh.drew.trans hb6;obtain⟨w7,hrun7,hmp7,hgr7⟩:=(HXW.o w6 hb).drop HC3.o.ch.uq HC3.o.ch.wfl HW.o.2.1 HW.o.2.2 0;have c6:=zf hb c5;have HM7:=ze hmp7;have HG7:=ze hgr7;have HB6:=ze hb;have T0:=zf hb t0;have T1:=zf hb t1;have T2:=zf hb t2;clear hmp7 hgr7 hb hb6)
  all_goals
   have hq7:¬ Xb p g m q0:=fun h=>by have:=HX.o _ h;omega
   have HT7:=ze ((HT5.o.below HB6.o).grown HG7.o (fun e=>hq7 (.inr (.inr e.symm))));have HR7:=ze ((HR5.o.below HB6.o).grown HG7.o (fun e=>HNE0.o.2.2 (.inr (.inr e.symm))));clear T0 T1 T2 t0 t1 t2 r0 r1 r2 f0 f1 f2;obtain⟨t0,t1,t2,-,-,-,-⟩:=HT7.o;obtain⟨r0,r1,r2,f0,f1,f2,hrl⟩:=HR7.o;have HCP:=ze (show Ch L5 t/\wo (a::t) x.k x.i=t from by
    have h1:=HL.o.pop HI5.o H51.o;rw[HTA.o]at h1;refine⟨h1.1,?_⟩;rw[<-HTA2.o];exact h1.2.symm)
   have hm7:=HM7.o;rw[HCP.o.2]at hm7;have HC7:=ze (HC3.o.gone HP5.o HO5.o HB6.o HG7.o hm7 HCP.o.1);have HO7:=ze (((HO3.o.trans (But.of_only (X:=Xb p g m) HO5.o (.inl rfl) (.inr (.inl rfl))) (fun _ _ h=>h)).then_ HB6.o).grown HG7.o (fun q hq _=>.inr (.inr hq)));have HLE:=ze (show L5.length<=L.length from by have h1:=H51.o.length_eq;simp only[List.length_cons]at h1;have:=HL1.o;omega);clear hm7 hq7 HPO;go_wp2_with fail;refine bodyPost_ret (by simp[results,Tryz.results181,go_sem, *];try rfl) rfl ?_;exact⟨by rw[HTA2.o];rfl,CPop.back HC7.o HO7.o HX.o HLE.o _ _ _⟩
theorem KQ{α:Type}(h:Array α)(o:α)(i:Nat)(f:α->α)(hi:i<h.size):(h.push o).modify i f=(h.modify i f).push o:=by
 apply Array.ext
 ·simp
 ·intro j h1 h2;simp only[Array.getElem_modify,Array.getElem_push,Array.size_modify];by_cases hj:j<h.size
  ·simp[hj]
  ·have:¬ i=j:=by omega
   simp[hj,this]
theorem ZH(w:World)(o:Obj)(a:Addr)(v:Value)(h:a.block<w.heap.size):(w.alloc o).setCell a v=(w.setCell a v).alloc o:=by
 unfold World.setCell World.alloc;simp only;rw[KQ _ _ _ _ h]
namespace CalP
theorem Cs.wx{w:World}{p g n:Nat}{F:Fr}{m:Option Nat}{L l:List En}(h:Cs w p F g m n L l):∀ k,Xb p g m k->k<w.heap.size:=fun k hk=>h.xlt hk
theorem Cs.made{w:World}{p g n:Nat}{F:Fr}{L l:List En}(h:Cs w p F g none n L l):Cs ((w.alloc (.map #[] 0)).setCell ⟨p,3,none⟩ (.map (some w.heap.size))) p F g (some w.heap.size) 0 L l/\But (Xb p g none) w ((w.alloc (.map #[] 0)).setCell ⟨p,3,none⟩ (.map (some w.heap.size))):=by
 have hb:=(Below.refl w.heap.size w).alloc fi (.map #[] 0);have h2:=h.below hb;have hl:l=[]:=by
  rcases h.mp with⟨_,h⟩|⟨b,_,h,_⟩
  ·exact h
  ·cases h
 have hpl:=h.pl;have hgl:=h.hp.gl;refine⟨⟨?_,World.cell?_setCell_same _ _ _ h2.mc,by rw[World.frozen?_setCell];exact h2.mf,h.ch,?_,fun b hb=>by injection hb with hb;omega,fun o h3 h4=>⟨?_,by rw[World.frozen?_setCell];exact(h2.re o h3 h4).2⟩⟩,(But.of_below hb).set (a:=⟨p,3,none⟩) (.inl (.inl rfl)) _⟩
 ·obtain⟨v,h1,h2,h3,h4,h5⟩:=h2.hp;refine⟨v,?_,by rw[World.frozen?_setCell];exact h2,by simpa using h3,h4.other fun b k c hv=>Below.heap_setCell _ _ _ _ ?_,?_⟩
  ·rw[World.cell?_setCell_other _ _ _ _ (by intro e;injection e with _ e _;exact absurd e (by decide))];exact h1
  ·rcases h5 with⟨rfl,_⟩|⟨c',rfl,_,hg,_⟩
   ·simp at hv
   ·simp at hv;obtain⟨rfl,_⟩:=hv;exact hg
  ·rcases h5 with h5|⟨c,h6,h7,h8,h9⟩
   ·exact .inl h5
   ·exact .inr ⟨c,h6,h7,h8,by simpa using h9⟩
 ·subst hl;refine(Mp.made w).kept (row:=some p) ⟨rfl,rfl,rfl,by simp,fun k hk hne=>Below.heap_setCell _ _ _ _ (fun e=>hne (by rw[e]))⟩ (fun b hb e=>?_);injection hb with hb;injection e with e;omega
 ·rw[World.cell?_setCell_other _ _ _ _ (by intro e;injection e with _ e _;exact h4 e.symm)];exact(h2.re o h3 h4).1
end CalP
def bj(p:Nat)(F:Fr)(g n:Nat)(m:Option Nat)(L l:List En)(e:En)(w w':World):Prop:=
 ∃g' b n' L',(∀l',Zo l'->l'.Perm (e::wo l e.k e.i)->Cs w' p F g' (some b) n' L' l')/\L'.length<=L.length+1/\n'<=n+1/\But (Xb p g m) w w'/\(∀k,k<w.heap.size->Xb p g' (some b) k->Xb p g m k)
theorem Qr{F:Fr}(p g n N:Nat)(m:Option Nat)(L l:List En)(e:En)(w:World)(h:Cs w p F g m n L l)(hl:L.length=N)(hN:N<=100000)(hn:n<=100000)(he:WC e):
  Calls prog 139 #[.pointer (some ⟨p,2,none⟩),O J e.k,O J e.i,O J e.t] w fun r w'=>r=.returned (.tuple #[])/\bj p F g n m L l e w w':=by
 have HC:=ze h;have Hl:=ze hl;have hpl:=h.pl;have hgl:=h.hp.gl;clear h hl;have hnil:=fun(W:World)(r:Option Nat)=>run_eql_map_nil (P:=prog) W _ _ _ r underlying143
 have hmm:= @run_makeMap prog;go_enter func139,ntmps139;have c1:=HC.o.mc;have f1:=HC.o.mf
 go_upto_if 14 with(fail)
 go_cut [] (fun wx=>∃ b n',Cs wx p F g (some b) n' L l/\n'<=n/\But (Xb p g m) w wx/\(m=some b\/w.heap.size<=b))
 case first=>
  cases m with
  |none=>
   have hsw:(w.alloc (.map #[] 0)).setCell ⟨p,3,none⟩ (.map (some w.heap.size))=(w.setCell ⟨p,3,none⟩ (.map (some w.heap.size))).alloc (.map #[] 0):=ZH _ _ _ _ hpl;have hmd:=HC.o.made;rw[hsw]at hmd;have HM:=ze hmd;clear hsw hmd;go_wp2_with fail
   go_meet
   exact⟨_,0,HM.o.1,Nat.zero_le _,HM.o.2,.inr fi⟩
  |some b=>
   go_wp2_with fail
   go_meet
   exact⟨b,n,HC.o,fi,But.refl _ _,.inl rfl⟩
 case rest=>
  obtain⟨b,n',hc,hn',hbut,hm⟩:=hcut;have HCC:=ze hc;have HO:=ze hbut;have HM:=ze hm;have HX:=ze HC.o.wx;obtain⟨c,ok,hT,hrun⟩:=hc.look he.2.1 he.2.2;have HT:=ze hT;have HRN:=ze hrun;have hzw:=hbut.size;clear c1 f1;have c1:=hc.mc;clear hT hrun hc hbut hm HC;go_upto_region 2 with(fail)
  go_region_held3 (fun w'=>w'.cell? ⟨p,3,none⟩=some (.map (some b))/\(Instr.lookup 143 (.map (some b)) (.agg #[O J e.k,O J e.i]) true).run prog w'=.ok (.tuple #[O J c,.bool ok]) w'/\fj wc w')
   (first|(go_split_ands;exact⟨zf hb4 ‹_›,HRN.o _ ((‹fj wc _›).trans (hb4.mono (‹fj wc _›).size)),(‹fj wc _›).trans (hb4.mono (‹fj wc _›).size)⟩)|(exact⟨c1,HRN.o _ fh.drew,fh.drew⟩)|(go_split_ands;exact⟨‹_›,‹_›,‹_›⟩))
   (first|(go_at_call 178;refine(kh _ _ _).mono ?_;rintro r w4 ⟨rfl,hb4⟩))
  have HB4:=ze (show fj wc w4 from by go_split_ands;assumption);rename_i hH;clear hH hb4 c1;have HC4:=ze (HCC.o.below HB4.o);have HO4:=ze (HO.o.then_ HB4.o);have c4:=HC4.o.mc;have hz4:=HB4.o.size;clear HRN;have HXB:=ze (fun i(hi:i<w.heap.size)(hx:Xb p g (some b) i)=>(show Xb p g m i from by
   rcases hx with h|h|h
   ·exact .inl h
   ·exact .inr (.inl h)
   ·injection h with h;rcases HM.o with h2|h2
    ·exact .inr (.inr (by rw[h2,h]))
    ·omega))
  have HOT:=ze HO4.o;by_cases hcase:ok=true/\c=e.t
  ·obtain⟨rfl,rfl⟩:=hcase;have HE:=ze (show e∈l from by
    rcases HT.o with⟨_,x,hx,h1,h2,h3⟩|⟨h,_⟩
    ·have:x=e:=by
      obtain⟨a,d,f⟩:=x;have h1':d=e.k:=h1;have h2':f=e.i:=h2;have h3':a=e.t:=h3;rw[h1',h2',h3']
     rw[<-this];exact hx
    ·cases h)
   go_wp2_with fail;refine bodyPost_ret (results_none rfl _ _ _) rfl ?_;refine⟨rfl,g,b,n',L,fun l' h1 h2=>?_,by omega,by omega,HO4.o,fun k hk hx=>HXB.o k hk hx⟩;obtain⟨h3,h4⟩:=HC4.o.ch.same HE.o h1 h2;exact⟨HC4.o.hp,HC4.o.mc,HC4.o.mf,h3,HC4.o.mp.perm h4.symm,HC4.o.ne,HC4.o.re⟩
  ·have hbr:ok=false\/(ok=true/\(c==e.t)=false):=by
    cases ok with
    |false=>exact .inl rfl
    |true=>exact .inr ⟨rfl,by simpa using hcase⟩
   clear hcase HT HO HCC;rcases hbr with rfl|⟨rfl,hcc⟩
   ·go_wp2_with fail
    go_region_with (go_at_call 178;refine(kh e.k e.i _).mono ?_;rintro r w5 ⟨rfl,hb5⟩;have hb:fj w4 w5:=fh.drew.trans hb5;obtain⟨w6,hrun6,hmp6,hgr6⟩:=(HC4.o.mp.below hb).store HC4.o.ch.uq HC4.o.ch.wfl (by simp only[maxLen];omega) he;have c5:=zf hb c4;have HM6:=ze hmp6;have HG6:=ze hgr6;have HB5:=ze hb;clear hmp6 hgr6 hb hb5)
    all_goals
     have HC5:=ze (HC4.o.below HB5.o);have HPS:=ze (ZW p g N L e w6 (HC5.o.hp.grown HG6.o (fun h=>(HC5.o.ne p h.symm).1 rfl) (fun h=>(HC5.o.ne g h.symm).2 rfl)) HC5.o.ch.heap Hl.o (by omega));go_wp2_with(go_at_call 179;refine(HPS.o).mono ?_;rintro r w8 ⟨rfl,g',L8,hp8,hi8,hm8,ho8,hg8⟩;have HP8:=ze hp8;have HI8:=ze hi8;have HM8:=ze hm8;have HO8:=ze ho8;have HG8:=ze hg8;clear hp8 hi8 hm8 ho8 hg8);go_end0;have h56:=HG6.o.size;have h45:=HB5.o.size;refine⟨rfl,g',b,n'+1,L8,fun l' h1 h2=>HC5.o.set_ HG6.o HM6.o HP8.o HO8.o HG8.o (HC5.o.ch.set he HI8.o HM8.o h1 h2) h2.symm,by have:=HM8.o.length_eq;simp only[List.length_cons]at this;omega,by omega,?_,?_⟩
     ·exact((HO4.o.then_ HB5.o).trans (Y:=Xb p g (some b)) (But.of_grown HG6.o (fun k hk=>.inr (.inr hk))) HXB.o).trans (Y:=Xb p g (some b)) (But.of_only HO8.o (.inl rfl) (.inr (.inl rfl))) HXB.o
     ·intro k hk hx;rcases hx with h|h|h
      ·exact .inl h
      ·rcases HG8.o with h2|h2
       ·exact .inr (.inl (h.trans h2))
       ·omega
      ·exact HXB.o k hk (.inr (.inr h))
   ·go_wp2_with fail
    go_region_with (go_at_call 178;refine(kh e.k e.i _).mono ?_;rintro r w5 ⟨rfl,hb5⟩;have hb:fj w4 w5:=fh.drew.trans hb5;obtain⟨w6,hrun6,hmp6,hgr6⟩:=(HC4.o.mp.below hb).store HC4.o.ch.uq HC4.o.ch.wfl (by simp only[maxLen];omega) he;have c5:=zf hb c4;have HM6:=ze hmp6;have HG6:=ze hgr6;have HB5:=ze hb;clear hmp6 hgr6 hb hb5)
    all_goals
     have HC5:=ze (HC4.o.below HB5.o);have HPS:=ze (ZW p g N L e w6 (HC5.o.hp.grown HG6.o (fun h=>(HC5.o.ne p h.symm).1 rfl) (fun h=>(HC5.o.ne g h.symm).2 rfl)) HC5.o.ch.heap Hl.o (by omega));go_wp2_with(go_at_call 179;refine(HPS.o).mono ?_;rintro r w8 ⟨rfl,g',L8,hp8,hi8,hm8,ho8,hg8⟩;have HP8:=ze hp8;have HI8:=ze hi8;have HM8:=ze hm8;have HO8:=ze ho8;have HG8:=ze hg8;clear hp8 hi8 hm8 ho8 hg8);go_end0;have h56:=HG6.o.size;have h45:=HB5.o.size;refine⟨rfl,g',b,n'+1,L8,fun l' h1 h2=>HC5.o.set_ HG6.o HM6.o HP8.o HO8.o HG8.o (HC5.o.ch.set he HI8.o HM8.o h1 h2) h2.symm,by have:=HM8.o.length_eq;simp only[List.length_cons]at this;omega,by omega,?_,?_⟩
     ·exact((HO4.o.then_ HB5.o).trans (Y:=Xb p g (some b)) (But.of_grown HG6.o (fun k hk=>.inr (.inr hk))) HXB.o).trans (Y:=Xb p g (some b)) (But.of_only HO8.o (.inl rfl) (.inr (.inl rfl))) HXB.o
     ·intro k hk hx;rcases hx with h|h|h
      ·exact .inl h
      ·rcases HG8.o with h2|h2
       ·exact .inr (.inl (h.trans h2))
       ·omega
      ·exact HXB.o k hk (.inr (.inr h))
end
end Go.Proofs.YtdeogmbfgkepeaaGreatDoor
