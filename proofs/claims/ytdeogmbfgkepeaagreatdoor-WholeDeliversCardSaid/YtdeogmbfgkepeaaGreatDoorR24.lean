/- Contracts for WholeDelivers. -/
import Derived.Test.YtdeogmbfgkepeaaGreatDoorR19
set_option linter.unusedVariables false
set_option linter.unusedSimpArgs false
set_option maxRecDepth 100000
set_option maxHeartbeats 64000000
namespace Go.Proofs.YtdeogmbfgkepeaaGreatDoor
open Go.Proofs.Tryz
open Go.Value renaming int->O
open Go.IntKind renaming i64->J
section
open Go.RowKit HB Go.Maps CalP
theorem ZI(t a b:Int)(w:l6):Calls prog 71 #[O J t,.agg #[O J a,O J b]] w (fk (O J (KX t a b)) w):=by
 have hw:Hz (∀x,KX t a b=x->O J x=O J (KX t a b)):=ze (fun x h=>by rw[h]);by_cases ha:a=0<;>by_cases hb:b=0<;>by_cases h4:t=4<;>by_cases h1:t=1<;>by_cases h3:t=3<;>by_cases h2:t=2<;>first|(exfalso;omega)|skip
 all_goals
  have ea:(a==0)=decide (a=0):=rfl
  go_in
  go_wp2_with fail;go_quiet(fail);go_wp2_with fail;go_ret;exact⟨congrArg Ending.returned (hw.o _ (by unfold KX;simp[*])),zg (Bs.one w [_,_] 148).b _⟩
structure Gd(w:l6)(x:Nat)(m:Option Nat)(n:Nat)(f:Int×Int->Option Int):Prop where
 c:w.cell? ⟨x,0,none⟩=some (.map m)
 fz:w.frozen? ⟨x,0,none⟩=false
 mv:Mv cellK (Value.int .i64) w m n f
 ne:m≠some x
structure GdN(w:l6)(x:Nat)(m:Option Nat)(w':l6)(m':Option Nat)(n':Nat)(f':Int×Int->Option Int):Prop where
 gd:Gd w' x m' n' f'
 but:But (fun k=>k=x\/m=some k) w w'
 m:∀ k,k<w.heap.size->m'=some k->m=some k
section
variable{w w' w1:l6}{x n n' n1:Nat}{m m' m1:Option Nat}{f f' f1:Int×Int->Option Int}
theorem Gd.lt(h:Gd w x m n f):x<w.heap.size:=JG w _ h.c
theorem Gd.below(h:Gd w x m n f)(hb:fj w w'):Gd w' x m n f:=⟨(hb.cell (p:=⟨x,0,none⟩) h.lt).trans h.c,(hb.frozen (p:=⟨x,0,none⟩) h.lt).trans h.fz,h.mv.below hb,h.ne⟩
theorem Gd.refl(h:Gd w x m n f):GdN w x m w m n f:=⟨h,But.refl _ _,fun _ _ h=>h⟩
theorem Gd.grown(h:Gd w x m n f)(hb:fj w w'):GdN w x m w' m n f:=⟨h.below hb,But.of_below hb,fun _ _ h=>h⟩
theorem GdN.trans(a:GdN w x m w1 m1 n1 f1)(b:GdN w1 x m1 w' m' n' f'):GdN w x m w' m' n' f':=
 ⟨b.gd,a.but.trans b.but fun k hk hx=>hx.elim .inl (fun e=>.inr (a.m k hk e)),fun k hk e=>a.m k hk (b.m k (kK hk a.but.size) e)⟩
theorem Gd.turned(h:Gd w x m n f)(hg:w.grownBy w' m)(hm:Mv cellK (Value.int .i64) w' m n' f'):GdN w x m w' m n' f':=by
 have hb:But (fun k=>m=some k) w w':=But.of_grown hg fun k hk=>hk
 have hh:w'.heap[x]?=w.heap[x]?:=hb.block x h.lt h.ne;exact⟨⟨(vg (a:=⟨x,0,none⟩) hh).trans h.c,(xC (a:=⟨x,0,none⟩) hh).trans h.fz,hm,h.ne⟩,hb.mono fun k _ hk=>.inr hk,fun k _ e=>e⟩
theorem Gd.made(h:Gd w x none n f):GdN w x none ((w.alloc (.map #[] 0)).setCell ⟨x,0,none⟩ (.map (some w.heap.size))) (some w.heap.size) 0 (fun _=>none):=by
 have h1:=h.lt;have H1:=h.below ((Below.refl w.heap.size w).alloc fi (.map #[] 0));have h0:But (fun k=>k=x) w ((w.alloc (.map #[] 0)).setCell ⟨x,0,none⟩ (.map (some w.heap.size))):=(But.of_below (X:=fun k=>k=x) ((Below.refl w.heap.size w).alloc fi (.map #[] 0))).set (a:=⟨x,0,none⟩) (.inl rfl) _;refine⟨⟨KO _ _ _ H1.c,by rw[yD];exact H1.fz,(Mv.made cellK _ w).but (X:=fun k=>k=x) ((But.refl (fun k=>k=x) _).set (a:=⟨x,0,none⟩) (.inl rfl) _) (fun b hb e=>?_),fun e=>?_⟩,h0.mono fun k _ hk=>.inl hk,fun k hk e=>?_⟩
 ·injection hb with hb;omega
 ·injection e with e;omega
 ·injection e with e;omega
end
theorem Jy(w:l6){x:Nat}(h:x<w.heap.size)(o:Obj)(k:Nat)(u:Value):(w.alloc o).setCell ⟨x,k,none⟩ u=(w.setCell ⟨x,k,none⟩ u).alloc o:=by
 unfold World.setCell World.alloc;simp only
 congr 1
 apply Array.ext
 ·simp
 ·intro j h1 h2;simp only[iJ,iU,Array.size_modify];by_cases hj:j<w.heap.size
  ·simp[hj]
  ·have:¬ x=j:=by omega
   simp[hj,this]
theorem Gd.drop{w:l6}{x n:Nat}{m:Option Nat}{f:Int×Int->Option Int}(h:Gd w x m n f){a b:Int}(hk:cellK.wf (a,b))(ty:TypeId):∃ w',(Builtin.delete_ #[143,148] ty #[.map m,.agg #[O J a,O J b]]).run prog w=.ok (.tuple #[]) w'/\GdN w x m w' m n (upd f (a,b) none):=by
 obtain⟨w',h1,h2,h3⟩:=h.mv.drop (T:=143) (E:=3) underlying143 (x:=(a,b)) hk ty;exact⟨w',h1,h.turned h3 h2⟩
theorem Gd.store{w:l6}{x n b0:Nat}{f:Int×Int->Option Int}(h:Gd w x (some b0) n f)(hn:n<=1000000){a b:Int}(hk:cellK.wf (a,b))(c:Int):∃ w',(Instr.mapUpdate 143 (.map (some b0)) (.agg #[O J a,O J b]) (O J c)).run prog w=.ok () w'/\GdN w x (some b0) w' (some b0) (n+1) (upd f (a,b) (some c)):=by
 obtain⟨w',h1,h2,h3⟩:=h.mv.store (T:=143) (E:=3) underlying143 (by simp only[maxLen];omega) (x:=(a,b)) hk c;exact⟨w',h1,h.turned h3 h2⟩
theorem GS(x n:Nat)(m:Option Nat)(f:Int×Int->Option Int)(a b c:Int)(w:l6)(H:Gd w x m n f)(hk:cellK.wf (a,b))(hn:n<=1000000):
  Calls prog 70 #[.pointer (some ⟨x,0,none⟩),.agg #[O J a,O J b],O J c] w fun e w'=>e=.returned (.tuple #[])/\∃ m' n',GdN w x m w' m' n' (upd f (a,b) (if c=0 then none else some c))/\n'<=n+1:=by
 have h1:=H.lt;have c0:=H.c;have f0:=H.fz;have HB:=ze (Bs.one w [O J a,O J b] 148);have HC:=ze (H.grown HB.o.b);clear H;by_cases hc:c=0
 ·subst hc;obtain⟨w6,h0,hN⟩:=(HC.o.gd.below fh.drew).drop hk 0;have HN:=ze hN;clear hN
  go_in
  go_wp2_with fail;go_region;go_wp2_with fail
  (try simp only[Exit.inBlock,Exit.then]);refine bodyPost_ret (results_none rfl _ _ _) rfl ?_
  exact⟨rfl,m,n,HC.o.trans ((HC.o.gd.grown fh.drew).trans HN.o),by omega⟩
 ·have ec:(c==0)=false:=by simpa using hc
  rw[if_neg hc];have h2:=fun(W:l6)(r:Option Nat)=>run_eql_map_nil (P:=prog) W _ _ _ r underlying143
  have h3:= @run_makeMap prog;cases m with
  |none=>
   obtain rfl:f=fun _=>none:=by
    rcases HC.o.gd.mv with⟨-,h⟩|⟨b,D,h,-⟩
    ·exact funext h
    ·cases h
   have hm:=HC.o.gd.made;rw[Jy _ (by simp;omega),Jy _ h1,show(w.alloc (.cells [O J a,O J b].toArray 148)).heap.size=w.heap.size+1 from by simp]at hm;have HM:=ze hm;clear hm;obtain⟨w6,h0,hN⟩:=(HM.o.gd.below fh.drew).store (by omega) hk c;have HN:=ze hN;clear hN
   go_in
   go_wp2_with fail;go_region;go_wp2_with fail;go_end0;exact⟨rfl,_,_,HC.o.trans (HM.o.trans ((HM.o.gd.grown fh.drew).trans HN.o)),by omega⟩
  |some b0=>
   obtain⟨w6,h0,hN⟩:=(HC.o.gd.below fh.drew).store (by omega) hk c;have HN:=ze hN;clear hN
   go_in
   go_wp2_with fail;go_region;go_wp2_with fail;go_end0;exact⟨rfl,_,_,HC.o.trans ((HC.o.gd.grown fh.drew).trans HN.o),fi⟩
structure GrW(w:l6)(x q:Nat)(f:Int×Int->Option Int)(wr:l6):Prop where
 gd:∃ m n,Gd wr x m n f/\n<=q/\∀ b,m=some b->w.heap.size<=b
 bel:fj w wr
theorem GrW.set{w wr w':l6}{x q n':Nat}{m m':Option Nat}{f':Int×Int->Option Int}(hx:w.heap.size<=x)(hm:∀ b,m=some b->w.heap.size<=b)(hb:fj w wr)(h:GdN wr x m w' m' n' f')(hn:n'<=q):GrW w x q f' w':=
 ⟨⟨m',n',h.gd,hn,fun b e=>by
  rcases YF b wr.heap.size with h1|h1
  ·exact hm b (h.m b h1 e)
  ·have:=hb.size;omega⟩,hb.trans (h.but.below (fun k hk=>hk.elim (fun e=>e▸hx) (fun e=>hm k e)) hb.size)⟩
theorem bI(a b:Nat)(ha:a<=1000)(hb:b<=1000):cellK.wf ((a:Int),(b:Int)):=⟨zQ (by show(-1000000000:Int)<=(a:Int);omega) (by show(a:Int)<=1000000000;omega),zQ (by show(-1000000000:Int)<=(b:Int);omega) (by show(b:Int)<=1000000000;omega)⟩
def dK(t fl:Int)(w:l6)(e:Ending)(w':l6):Prop:=∃ x,e=.returned (.tuple #[.pointer (some ⟨x,0,none⟩),O J 0])/\w.heap.size<=x/\GrW w x 400 (jd t fl fl 0) w'
theorem KZ(t:Int)(fl:Nat)(ht:1<=t/\t<=4)(h2:2<=fl)(h20:fl<=20)(w:l6):Calls prog 49 #[O J t,O J fl] w (dK t fl w):=by
 have t0:=ht.1;have t1:=ht.2;have HT:=ze ht;clear ht;have hH:Gd (w.alloc (.cells #[.map none] 145)) w.heap.size none 0 (jd t fl 0 0):=by
  rw[XH];exact⟨by simp,by simp,.inl ⟨rfl,fun _=>rfl⟩,by simp⟩
 have h7:=ze (show GrW w w.heap.size (0*20) (jd t fl ((0:Nat):Int) 0) (w.alloc (.cells #[.map none] 145))from⟨⟨none,0,hH,fi,fun b e=>by cases e⟩,fh.alloc fi _⟩);clear hH
 go_in
 go_wp2_with fail
 go_loopw [24] (fun v wr=>∃ a:Nat,a<=fl/\v=O J a/\GrW w w.heap.size (a*20) (jd t fl a 0) wr) (fun v _=>fl-(intOf v).toNat)
 case atStart=>exact⟨0,vf _,rfl,h7.o⟩
 case round=>
  obtain⟨a,ha,rfl,hw⟩:=hrel;have HW:=ze hw;clear hw h7;by_cases hi:a<fl
  ·have i1:(a:Int)<(fl:Int):=by omega
   have h8:=ze (show GrW w w.heap.size (a*20+0) (jd t fl a ((0:Nat):Int)) wr from HW.o);obtain⟨W1,hd⟩:∃ W1,W1=wr:=⟨_,rfl⟩;subst hd;go_wp2_with fail
   go_loopw [28] (fun v wr=>∃ b:Nat,b<=fl/\v=O J b/\GrW w w.heap.size (a*20+b) (jd t fl a b) wr) (fun v _=>fl-(intOf v).toNat)
   case atStart=>exact⟨0,vf _,rfl,h8.o⟩
   case round=>
    obtain⟨b,hb,rfl,hw⟩:=hrel;have h1:=ze hw;clear hw h8;by_cases hf:b<fl
    ·have i2:(b:Int)<(fl:Int):=by omega
     by_cases he:a=b
     ·subst he;have h3:=ze (show GrW w w.heap.size (a*20+(a+1)) (jd t fl a ((a+1:Nat):Int)) wr from by
       obtain⟨⟨m,n,hg,hn,hm⟩,h0⟩:=h1.o;have e:=XI t fl a;exact⟨⟨m,n,by rw[show((a+1:Nat):Int)=(a:Int)+1 by omega,<-e];exact hg,by omega,hm⟩,h0⟩)
      go_wp2_with fail;go_roundw
      case rel=>exact⟨a+1,by omega,by go_num,h3.o⟩
      case measure=>simp[intOf];omega
     ·have eab:((a:Int)==(b:Int))=false:=by simp;omega
      obtain⟨⟨m,n,hg,hn,hm⟩,h0⟩:=h1.o;have HG:=ze hg;have HM:=ze hm;have h6:=ze h0;have hc:=ze (bI a b (by omega) (by omega));clear hg hm h0;go_wp2_with(first
       |(go_at_call 71;(with_reducible refine(ZI t a b _).mono ?_);rintro r w3 ⟨rfl,h9⟩;have h5:=ze h9;clear h9)
       |(go_at_call 70;(with_reducible refine(GS w.heap.size n m _ a b (KX t a b) _ (HG.o.below h5.o) hc.o (by omega)).mono ?_);rintro r w4 ⟨rfl,m4,n4,h4,hj⟩;have H4:=ze h4;clear h4))
      go_roundw
      case rel=>
       refine⟨b+1,by omega,by go_num,?_⟩;have e:=UL t fl a b (by omega) (by omega) (by omega);rw[show((b+1:Nat):Int)=(b:Int)+1 by omega,<-e];exact GrW.set fi HM.o (h6.o.trans (h5.o.mono h6.o.size)) H4.o (by omega)
      case measure=>simp[intOf];omega
    ·obtain rfl:b=fl:=by omega
     have h3:=ze (show GrW w w.heap.size ((a+1)*20) (jd t b ((a+1:Nat):Int) 0) wr from by
      obtain⟨⟨m,n,hg,hn,hm⟩,h0⟩:=h1.o;have e:=UK t b a;exact⟨⟨m,n,by rw[show((a+1:Nat):Int)=(a:Int)+1 by omega,<-e];exact hg,by omega,hm⟩,h0⟩)
     go_wp2_with fail;go_roundw
     case rel=>exact⟨a+1,by omega,by go_num,h3.o⟩
     case measure=>simp[intOf];omega
  ·obtain rfl:a=fl:=by omega
   go_wp2_with fail;go_ret2;obtain⟨⟨m,n,hg,hn,hm⟩,h0⟩:=HW.o;exact⟨w.heap.size,rfl,fi,⟨m,n,hg,by omega,hm⟩,h0⟩
end
end Go.Proofs.YtdeogmbfgkepeaaGreatDoor
