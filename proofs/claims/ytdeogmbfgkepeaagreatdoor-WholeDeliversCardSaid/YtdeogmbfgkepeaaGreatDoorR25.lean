/- Contracts for WholeDelivers. -/
import Derived.Shelf.SlSortCmp.WholeK
import Derived.Test.YtdeogmbfgkepeaaGreatDoorR05
import Derived.Test.YtdeogmbfgkepeaaGreatDoorR18
set_option linter.unusedVariables false
set_option linter.unusedSimpArgs false
set_option maxRecDepth 100000
set_option maxHeartbeats 64000000
namespace Go.Proofs.YtdeogmbfgkepeaaGreatDoor
open Go.Proofs.Tryz
open Go.Value renaming int->O
open Go.IntKind renaming i64->J
section
section
open Go.Shelf Go.Sort Go.RowKit
def Tryz.sortWeights_ren:Go.Shelf.Ren:=⟨fun|6=>126|15=>64|14=>162|28=>94|29=>95|20=>206|21=>207|22=>208|23=>209|24=>210|25=>211|26=>212|27=>213|46=>241|47=>120|48=>121|49=>242|50=>243|57=>268|n=>n,fun|22=>186|24=>189|25=>236|3=>3|39=>137|0=>0|53=>151|55=>129|4=>4|46=>176|45=>175|50=>112|5=>5|9=>9|66=>225|70=>229|76=>289|77=>290|n=>n,fun|n=>n⟩
theorem Tryz.sortWeights:Go.Proofs.SlLaysF0.n6 prog Tryz.sortWeights_ren:={
 mixed:=by kernel_rfl
 f6:=⟨Tryz.f126.name,by decide,func126.trans (congrArg some (by kernel_rfl))⟩
 f14:=⟨Tryz.f162.name,by decide,func162.trans (congrArg some (by kernel_rfl))⟩
 f15:=func64.trans (congrArg some (by kernel_rfl))
 f20:=⟨Tryz.f206.name,by decide,func206.trans (congrArg some (by kernel_rfl))⟩
 f21:=⟨Tryz.f207.name,by decide,func207.trans (congrArg some (by kernel_rfl))⟩
 f22:=⟨Tryz.f208.name,by decide,func208.trans (congrArg some (by kernel_rfl))⟩
 f23:=⟨Tryz.f209.name,by decide,func209.trans (congrArg some (by kernel_rfl))⟩
 f24:=⟨Tryz.f210.name,by decide,func210.trans (congrArg some (by kernel_rfl))⟩
 f25:=⟨Tryz.f211.name,by decide,func211.trans (congrArg some (by kernel_rfl))⟩
 f26:=⟨Tryz.f212.name,by decide,func212.trans (congrArg some (by kernel_rfl))⟩
 f27:=⟨Tryz.f213.name,by decide,func213.trans (congrArg some (by kernel_rfl))⟩
 f28:=func94.trans (congrArg some (by kernel_rfl))
 f29:=func95.trans (congrArg some (by kernel_rfl))
 f46:=⟨Tryz.f241.name,by decide,func241.trans (congrArg some (by kernel_rfl))⟩
 f47:=func120.trans (congrArg some (by kernel_rfl))
 f48:=func121.trans (congrArg some (by kernel_rfl))
 f49:=⟨Tryz.f242.name,by decide,func242.trans (congrArg some (by kernel_rfl))⟩
 f50:=⟨Tryz.f243.name,by decide,func243.trans (congrArg some (by kernel_rfl))⟩
 f57:=⟨Tryz.f268.name,by decide,func268.trans (congrArg some (by kernel_rfl))⟩
 t0:=underlying0
 a0:=isAgg0
 z0:=sizeOf0
 v0:=zeroValue0
 t3:=underlying3
 a3:=isAgg3
 z3:=sizeOf3
 v3:=zeroValue3
 t4:=underlying4
 a4:=isAgg4
 z4:=sizeOf4
 v4:=zeroValue4
 t5:=underlying5
 a5:=isAgg5
 z5:=sizeOf5
 v5:=zeroValue5
 t9:=underlying9
 a9:=isAgg9
 z9:=sizeOf9
 v9:=zeroValue9
 t22:=underlying186
 a22:=isAgg186
 z22:=sizeOf186
 v22:=zeroValue186
 t25:=underlying236
 a25:=isAgg236
 z25:=sizeOf236
 v25:=zeroValue236
 t39:=underlying137
 a39:=isAgg137
 z39:=sizeOf137
 v39:=zeroValue137
 t45:=underlying175
 a45:=isAgg175
 z45:=sizeOf175
 v45:=zeroValue175
 t46:=underlying176
 a46:=isAgg176
 z46:=sizeOf176
 v46:=zeroValue176
 t50:=underlying112
 a50:=isAgg112
 z50:=sizeOf112
 v50:=zeroValue112
 t53:=underlying151
 a53:=isAgg151
 z53:=sizeOf151
 v53:=zeroValue151
 t55:=underlying129
 a55:=isAgg129
 z55:=sizeOf129
 v55:=zeroValue129
 t66:=underlying225
 a66:=isAgg225
 z66:=sizeOf225
 v66:=zeroValue225
 t70:=underlying229
 a70:=isAgg229
 z70:=sizeOf229
 v70:=zeroValue229
 t76:=underlying289
 a76:=isAgg289
 z76:=sizeOf289
 v76:=zeroValue289
 t77:=underlying290
 a77:=isAgg290
 z77:=sizeOf290
 v77:=zeroValue290}
end
open Go.RowKit HB Go.Maps CalP Go.Sort
theorem ub{α:Type}[Inhabited α]{enc:α->iZ}{k:Nat}{w:l6}{blk off n:Nat}{d:Array α}{os:Array Obj}:w.grownBy (sortWorldK enc k w blk off n d os) (some blk):=by
 refine⟨rfl,rfl,rfl,by simp[sortWorldK,putRowK,putRow,mapBlock,grow],fun i hi h0=>?_⟩;unfold sortWorldK;rw[heap_grow_old _ _ (by simp[putRowK,putRow,mapBlock];exact hi)];have:blk≠i:=fun e=>h0 (by rw[e])
 simp[putRowK,putRow,mapBlock,Sort.ahead,Array.getElem?_modify,this]
def xv(a b:Int):Int:=if a<b then -1 else if b<a then 1 else 0
theorem UO(a:Int)(w:l6):Calls prog 124 #[O J a] w fun e w'=>e=.returned (.bool false)/\w=w':=by
 go_in
 go_wp2_with fail;go_ret;exact⟨by simp,rfl⟩
theorem yM(a b:Int)(w:l6):Calls prog 164 #[O J a,O J b] w fun e w'=>e=.returned (O J (xv a b))/\w=w':=by
 have hn:=fun x W=>UO x W
 rcases(show a<b\/(¬a<b/\b<a)\/(¬a<b/\¬ b<a)from by omega)with h1|⟨h1,h2⟩|⟨h1,h2⟩
 ·have hv:=ze (show xv a b=-1 from by unfold xv;rw[if_pos h1]);have e1:decide (a<b)=true:=by simpa using h1
  go_in
  go_wp2_with(go_at_call 124;refine(hn _ _).mono ?_;rintro e w' ⟨rfl,rfl⟩);go_ret;exact⟨by rw[hv.o];rfl,rfl⟩
 ·have hv:=ze (show xv a b=1 from by unfold xv;rw[if_neg h1,if_pos h2]);have e1:decide (a<b)=false:=by simpa using h1
  have e2:decide (b<a)=true:=by simpa using h2
  go_in
  go_wp2_with(go_at_call 124;refine(hn _ _).mono ?_;rintro e w' ⟨rfl,rfl⟩);go_ret;exact⟨by rw[hv.o];rfl,rfl⟩
 ·have hv:=ze (show xv a b=0 from by unfold xv;rw[if_neg h1,if_neg h2]);have e1:decide (a<b)=false:=by simpa using h1
  have e2:decide (b<a)=false:=by simpa using h2
  go_in
  go_wp2_with(go_at_call 124;refine(hn _ _).mono ?_;rintro e w' ⟨rfl,rfl⟩);go_ret;exact⟨by rw[hv.o];rfl,rfl⟩
def da(a b:Int):Int:=if a=0 then b else a
theorem cS(q:Nat)(a b:Int)(w:l6)(h0:w.cell? ⟨q,0,none⟩=some (O J a))(h1:w.cell? ⟨q,1,none⟩=some (O J b)):Calls prog 163 #[.slice (some ⟨q,0,none⟩) 2 2] w fun e w'=>e=.returned (O J (da a b))/\w=w':=by
 go_in
 go_wp2_with fail;refine wp_loop_rounds 3 ?_;rw[rounds_succ];by_cases ha:a=0
 ·subst ha;go_wp2_with fail;rw[rounds_succ];by_cases hb:b=0
  ·subst hb;go_wp2_with fail;rw[rounds_succ];go_wp2_with fail;go_ret;exact⟨rfl,rfl⟩
  ·have eb:(b==0)=false:=by simpa using hb
   go_wp2_with fail;go_ret;exact⟨by simp[da],rfl⟩
 ·have ea:(a==0)=false:=by simpa using ha
  go_wp2_with fail;go_ret;exact⟨by simp[da,ha],rfl⟩
def GwR(w w':l6):Prop:=∃ q os,w'=grow (w.drewN q) os
theorem GwR.refl(w:l6):GwR w w:=⟨0,#[],by rw[grow_empty];rfl⟩
theorem GwR.drew(w:l6):GwR w w.drew:=⟨1,#[],by rw[grow_empty];rfl⟩
theorem GwR.trans{a b c:l6}(h:GwR a b)(k:GwR b c):GwR a c:=by
 obtain⟨q,os,rfl⟩:=h;obtain⟨q',os',rfl⟩:=k;exact⟨q+q',os++os',by show grow (grow ((a.drewN q).drewN q') os) os'=_;rw[grow_grow,World.drewN_drewN]⟩
theorem GwR.alloc(w:l6)(o:Obj):GwR w (w.alloc o):=⟨0,#[o],by rw[alloc_eq_grow];rfl⟩
theorem GwR.below{w w':l6}(h:GwR w w'):fj w w':=by
 obtain⟨q,os,rfl⟩:=h;exact⟨rfl,rfl,rfl,by rw[size_grow];exact Nat.le_add_right _ _,fun k hk=>heap_grow_old (w.drewN q) os hk⟩
inductive Kg where
 |is (u:Value)
 |two (a b:Int)
def Kg.holds:Kg->Value->l6->Prop
 |.is u,v,_=>v=u
 |.two a b,v,W=>∃ q,v=.slice (some ⟨q,0,none⟩) 2 2/\q<W.heap.size/\W.cell? ⟨q,0,none⟩=some (O J a)/\W.cell? ⟨q,1,none⟩=some (O J b)
theorem Kg.lasts(k:Kg)(v:Value)(W W':l6)(h:k.holds v W)(hb:GwR W W'):k.holds v W':=by
 cases k with
 |is u=>exact h
 |two a b=>exact let⟨q,h1,h2,h3,h4⟩:=h;⟨q,h1,kK h2 hb.below.size,(hb.below.cell (p:=⟨q,0,none⟩) h2).trans h3,(hb.below.cell (p:=⟨q,1,none⟩) h2).trans h4⟩
section
variable{P:Program}{o:Oper}{act:Act}{W:l6}{k:Kg}{Q:Exit->Act->l6->Prop}
theorem jR{v:Value}{W':l6}(h:(execOp act.eval o).run P W=.ok (.value v) W')(hb:GwR W W')(hs:k.holds v W'):o.wp P act W (fun a' w'=>GwR W w'/\∃ v,a'=act.put o.dst v/\k.holds v w') Q:=by
 unfold Oper.wp;rw[h];exact⟨hb,v,rfl,hs⟩
theorem QD{f:FuncId}{args:Array Value}{u:Value}(h:(execOp act.eval o).run P W=.ok (.enter f args) W)(hc:Calls P f args W fun e w'=>e=.returned u/\GwR W w'):o.wp P act W (fun a' w'=>GwR W w'/\∃ v,a'=act.put o.dst v/\(Kg.is u).holds v w') Q:=by
 unfold Oper.wp;rw[h];refine Calls.mono hc ?_;rintro e w' ⟨rfl,hb⟩;exact⟨hb,u,rfl,rfl⟩
end
def Hb(x y:Int×Int):Int:=da (xv x.1 y.1) (xv x.2 y.2)
theorem QE(x y:Int×Int)(w:l6):Calls prog 128 #[.agg #[O J x.1,O J x.2],.agg #[O J y.1,O J y.2]] w fun e w'=>e=.returned (O J (Hb x y))/\GwR w w':=by
 obtain⟨x1,x2⟩:=x;obtain⟨y1,y2⟩:=y;generalize hr:Hb (x1,x2) (y1,y2)=r;have h3:da (xv x1 y1) (xv x2 y2)=r:=hr;have HR:=ze h3;clear hr h3;have h5:=ze (fun W=>yM x1 y1 W);have h6:=ze (fun W=>yM x2 y2 W);generalize xv x1 y1=p1 at*;generalize xv x2 y2=p2 at*;have HX:=ze (fun W(hb:GwR ((w.alloc (.cells #[O J x1,O J x2] 148)).alloc (.cells #[O J y1,O J y2] 148)) W)=>(show(W.cell? ⟨w.heap.size,0,none⟩=some (O J x1)/\W.cell? ⟨w.heap.size,1,none⟩=some (O J x2))/\W.cell? ⟨w.heap.size+1,0,none⟩=some (O J y1)/\W.cell? ⟨w.heap.size+1,1,none⟩=some (O J y2)from⟨⟨zf hb.below (by simp),zf hb.below (by simp)⟩,zf hb.below (by simp),zf hb.below (by simp)⟩))
 go_in
 go_upto_region 1 with(fail);refine ua GwR GwR.drew (fun a b c h k=>GwR.trans h k) (S:=fun i v W=>(([.is (.pointer (some ⟨w.heap.size,0,none⟩)),.is (O J x1),.is (.pointer (some ⟨w.heap.size+1,0,none⟩)),.is (O J y1),.is (O J p1),.is (.pointer (some ⟨w.heap.size,1,none⟩)),.is (O J x2),.is (.pointer (some ⟨w.heap.size+1,1,none⟩)),.is (O J y2),.is (O J p2),.two p1 p2,.is (O J r),.is (O J r)]:List Kg).getD i (.is undef)).holds v W) (by rfl) (by kernel_rfl) (fun i v W W' h hb=>Kg.lasts _ v W W' h hb) ⟨?s0,?s1,?s2,?s3,?s4,?s5,?s6,?s7,?s8,?s9,?s10,?s11,?s12,trivial⟩ (fun act W H=>?fin)
 case s0=>
  intro act W hb ho hn;have e2:act.tmps.getD 2 undef=.pointer (some ⟨w.heap.size,0,none⟩):=ho 2 (by kernel_rfl);refine jR (k:=.is (.pointer (some ⟨w.heap.size,0,none⟩))) ?_ (GwR.refl _) rfl;simp only[execOp,Act.eval,e2];go_simp
 case s1=>
  intro act W hb ho hn;have e5:act.tmps.getD 5 undef=.pointer (some ⟨w.heap.size,0,none⟩):=hn 0 _ 5 (by kernel_rfl) rfl rfl;have k:=(HX.o W hb).1.1;refine jR (k:=.is (O J x1)) ?_ (GwR.refl _) rfl;simp only[execOp,Act.eval,e5];go_simp
 case s2=>
  intro act W hb ho hn;have e3:act.tmps.getD 3 undef=.pointer (some ⟨w.heap.size+1,0,none⟩):=ho 3 (by kernel_rfl);refine jR (k:=.is (.pointer (some ⟨w.heap.size+1,0,none⟩))) ?_ (GwR.refl _) rfl;simp only[execOp,Act.eval,e3];go_simp
 case s3=>
  intro act W hb ho hn;have e7:act.tmps.getD 7 undef=.pointer (some ⟨w.heap.size+1,0,none⟩):=hn 2 _ 7 (by kernel_rfl) rfl rfl;have k:=(HX.o W hb).2.1;refine jR (k:=.is (O J y1)) ?_ (GwR.refl _) rfl;simp only[execOp,Act.eval,e7];go_simp
 case s4=>
  intro act W hb ho hn;have e6:act.tmps.getD 6 undef=O J x1:=hn 1 _ 6 (by kernel_rfl) rfl rfl;have e8:act.tmps.getD 8 undef=O J y1:=hn 3 _ 8 (by kernel_rfl) rfl rfl;refine QD (u:=O J p1) (f:=164) (args:= #[O J x1,O J y1]) ?_ ((h5.o W).mono fun e w' h=>⟨h.1,h.2▸GwR.refl _⟩);simp only[execOp,Act.eval,e6,e8];go_simp
 case s5=>
  intro act W hb ho hn;have e2:act.tmps.getD 2 undef=.pointer (some ⟨w.heap.size,0,none⟩):=ho 2 (by kernel_rfl);refine jR (k:=.is (.pointer (some ⟨w.heap.size,1,none⟩))) ?_ (GwR.refl _) rfl;simp only[execOp,Act.eval,e2];go_simp
 case s6=>
  intro act W hb ho hn;have e10:act.tmps.getD 10 undef=.pointer (some ⟨w.heap.size,1,none⟩):=hn 5 _ 10 (by kernel_rfl) rfl rfl;have k:=(HX.o W hb).1.2;refine jR (k:=.is (O J x2)) ?_ (GwR.refl _) rfl;simp only[execOp,Act.eval,e10];go_simp
 case s7=>
  intro act W hb ho hn;have e3:act.tmps.getD 3 undef=.pointer (some ⟨w.heap.size+1,0,none⟩):=ho 3 (by kernel_rfl);refine jR (k:=.is (.pointer (some ⟨w.heap.size+1,1,none⟩))) ?_ (GwR.refl _) rfl;simp only[execOp,Act.eval,e3];go_simp
 case s8=>
  intro act W hb ho hn;have e12:act.tmps.getD 12 undef=.pointer (some ⟨w.heap.size+1,1,none⟩):=hn 7 _ 12 (by kernel_rfl) rfl rfl;have k:=(HX.o W hb).2.2;refine jR (k:=.is (O J y2)) ?_ (GwR.refl _) rfl;simp only[execOp,Act.eval,e12];go_simp
 case s9=>
  intro act W hb ho hn;have e11:act.tmps.getD 11 undef=O J x2:=hn 6 _ 11 (by kernel_rfl) rfl rfl;have e13:act.tmps.getD 13 undef=O J y2:=hn 8 _ 13 (by kernel_rfl) rfl rfl;refine QD (u:=O J p2) (f:=164) (args:= #[O J x2,O J y2]) ?_ ((h6.o W).mono fun e w' h=>⟨h.1,h.2▸GwR.refl _⟩);simp only[execOp,Act.eval,e11,e13];go_simp
 case s10=>
  intro act W hb ho hn;have e9:act.tmps.getD 9 undef=O J p1:=hn 4 _ 9 (by kernel_rfl) rfl rfl;have e14:act.tmps.getD 14 undef=O J p2:=hn 9 _ 14 (by kernel_rfl) rfl rfl;refine jR (k:=.two p1 p2) (W':=W.alloc (.cells #[O J p1,O J p2] 3)) (v:=.slice (some ⟨W.heap.size,0,none⟩) 2 2) ?_ (GwR.alloc _ _) ⟨W.heap.size,rfl,by simp,by simp,by simp⟩;simp only[execOp,W9,JF,Vm,Act.eval,e9,e14];go_simp
 case s11=>
  intro act W hb ho hn;obtain⟨q,e15,hq,h0,h1⟩:(Kg.two p1 p2).holds (act.tmps.getD 15 undef) W:=hn 10 _ 15 (by kernel_rfl) rfl rfl;refine QD (u:=O J r) (f:=163) (args:= #[.slice (some ⟨q,0,none⟩) 2 2]) ?_ ((cS q p1 p2 W h0 h1).mono fun e w' h=>⟨by rw[h.1,HR.o],h.2▸GwR.refl _⟩);simp only[execOp,Act.eval,e15];go_simp
 case s12=>
  intro act W hb ho hn;have e16:act.tmps.getD 16 undef=O J r:=hn 11 _ 16 (by kernel_rfl) rfl rfl;refine jR (k:=.is (O J r)) ?_ (GwR.refl _) rfl;simp only[execOp,Act.eval,e16];go_simp
 case fin=>
  have e4:act.tmps.getD 4 undef=O J r:=H.new 12 _ 4 rfl rfl (by kernel_rfl);have h4:=ze H.bel;obtain⟨tmps,dfr⟩:=act;have h2:=H.dfr;dsimp only at h2 e4;subst h2;go_wp2_with fail;go_ret;exact⟨by rw[e4],((GwR.alloc w _).trans (GwR.alloc _ _)).trans h4.o⟩
abbrev ZJ(z:(Int×Int)×Int):iZ:=[O J z.1.1,O J z.1.2,O J z.2]
def UP(x y:(Int×Int)×Int):Int:=Hb x.1 y.1
theorem Vb(x y:(Int×Int)×Int)(w:l6):Calls prog 127 #[.agg (ZJ x).toArray,.agg (ZJ y).toArray] w fun e w'=>e=.returned (O J (UP x y))/\GwR w w':=by
 obtain⟨x1,x2⟩:=x;obtain⟨y1,y2⟩:=y;have HC:=ze (fun W=>QE x1 y1 W);unfold UP;simp only;generalize Hb x1 y1=r at*;obtain⟨x0,x1⟩:=x1;obtain⟨y0,y1⟩:=y1
 go_in
 go_wp2_with(go_at_call 128;(with_reducible refine(HC.o _).mono ?_);rintro e w1 ⟨rfl,hg⟩;have HG:=ze hg;clear hg);go_ret;exact⟨rfl,((GwR.alloc w _).trans (GwR.alloc _ _)).trans HG.o⟩
theorem yi(x y:(Int×Int)×Int):ltOf UP x y=decide (x.1.1<y.1.1\/x.1.1=y.1.1/\x.1.2<y.1.2):=by
 unfold ltOf UP Hb da xv;rcases Int.lt_trichotomy x.1.1 y.1.1 with h|h|h
 ·have:¬ y.1.1<x.1.1:=by omega
  simp[h]
 ·rcases Int.lt_trichotomy x.1.2 y.1.2 with k|k|k
  ·simp[h,k]
  ·simp[h,k]
  ·have:¬ x.1.2<y.1.2:=by omega
   simp[h,k,this]
 ·have h1:¬ x.1.1<y.1.1:=by omega
  have h2:¬ x.1.1=y.1.1:=by omega
  simp[h,h1,h2]
theorem eF:SWO (ltOf UP) where
 irrefl x:=by rw[yi];simp
 trans x y z h1 h2:=by rw[yi]at*;simp at*;omega
 ntrans x y z h1 h2:=by rw[yi]at*;simp at*;omega
theorem eG(w:l6):(isAgg 189).run prog w=.ok true w:=by kernel_rfl
theorem dL(w:l6):(Go.sizeOf 189).run prog w=.ok 3 w:=by kernel_rfl
theorem bJ{d d':Array ((Int×Int)×Int)}(h:PermIn 0 d.size d d'):d'.toList.Perm d.toList:=by
 obtain⟨h1,-,h3⟩:=h;rw[show d.extract 0 d.size=d by simp,show d'.extract 0 d.size=d' by rw[<-h1];simp]at h3;exact h3
theorem UQ{W:l6}{g:Nat}{d:Array ((Int×Int)×Int)}{n:Nat}(h:HoldsK ZJ 3 W g 0 d)(hg:g<W.heap.size)(hn:d.size=n):HB.Rd W W.heap.size 3 (some ⟨g,0,none⟩) n (d.toList.flatMap ZJ):=by
 refine⟨by rw[HB.flat_length (f:=ZJ) (m:=3) (fun _=>rfl) d.toList];simp[hn],fun _=>⟨g,0,rfl,hg,fun j u hu=>?_⟩⟩;have hj:j<d.size*3:=by have:=(qd.1 hu).1;rw[HB.flat_length (m:=3) (fun _=>rfl)]at this;simpa using this
 have h1:j/3<d.size:=by omega
 have h2:=HB.flat_get (f:=ZJ) (m:=3) (fun _=>rfl) d.toList (j/3) (j%3) d[j/3] (by rw[Array.getElem?_toList,Array.getElem?_eq_getElem h1]) (by omega);rw[show j/3*3+j%3=j by omega,hu]at h2;have h3:=(h.cell h1 (show j%3<3 by omega)).1;rw[show 0+j/3*3+j%3=0+j by omega]at h3;rw[h3,getElem!_pos d (j/3) h1];rw[List.getElem!_eq_getElem?_getD,<-h2];rfl
theorem QF(g k:Nat)(l:List ((Int×Int)×Int))(w:l6){base:Nat}{e:TypeId}(h:Own w base e 3 ZJ (.slice (some ⟨g,0,none⟩) l.length k) l)(h0:0<l.length)(hm:l.length<4611686018427387904):
  Calls prog 126 #[.slice (some ⟨g,0,none⟩) l.length k,.func (.func 127) #[] #[]] w fun e w'=>e=.returned (.tuple #[])/\∃ l':List ((Int×Int)×Int),l'.Perm l/\HB.Rd w' w'.heap.size 3 (some ⟨g,0,none⟩) l.length (l'.flatMap ZJ)/\w.grownBy w' (some g):=by
 have hg:g<w.heap.size:=(h.row.lt g rfl).2;have hH:HoldsK ZJ 3 w g 0 l.toArray:=by
  intro j hj;have h5:j<l.length*3:=by simpa[size_flatK]using hj
  obtain⟨g',cap,e1,-,-,-,hc,hf⟩:=h.at_ h0;have e2:g=g':=by injection e1 with e1;injection e1 with e1;injection e1
  subst e2;have h1:j/3<l.length:=by omega
  have h2:=HB.flat_get (f:=ZJ) (m:=3) (fun _=>rfl) l (j/3) (j%3) l[j/3] (kD h1) (by omega);rw[show j/3*3+j%3=j by omega]at h2;have h3:j%3<(ZJ l[j/3]).length:=by show j%3<3;omega
  rw[kD h3]at h2;refine⟨?_,by rw[Wa];exact hf j⟩;rw[Wa,hc j _ h2,get_flatK _ _ _ _ (by simpa using h5),getElem!_pos l.toArray (j/3) (by simpa using h1),List.getElem_toArray,getElem!_pos _ (j%3) h3]
  rfl
 have eg:∀ args w,(callFunc 127 args).run prog w=.ok (.enter 127 args) w:=enters_of func127 (by kernel_rfl) rfl;have h4:=AnyQ.slices_SortFunc Tryz.sortWeights 3 eG dL ZJ (fun _=>rfl) (fun x v hv=>by simp[ZJ]at hv;rcases hv with rfl|rfl|rfl<;>rfl) UP eF 127 #[] g 0 k l.toArray w eg (fun _ _ _ _ x y=>Vb x y _) hH hg (by simpa using hm);change Calls prog 126 _ _ _ at h4;rw[Wf]at h4;refine h4.mono ?_;rintro e w' ⟨rfl,d',n,os,hp,-,rfl⟩;have hs:d'.size=l.toArray.size:=hp.1;refine⟨rfl,d'.toList,by simpa using bJ (d:=l.toArray) (by simpa using hp),UQ (holdsK_sortWorldK ZJ 3 w g 0 n _ d' os hg hH hs) (lt_sortWorldK ZJ 3 w g 0 n d' os hg) (by simpa using hs),ub⟩
end
end Go.Proofs.YtdeogmbfgkepeaaGreatDoor
