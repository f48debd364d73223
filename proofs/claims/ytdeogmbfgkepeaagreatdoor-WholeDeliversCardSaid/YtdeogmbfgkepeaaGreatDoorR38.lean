/- Contracts for WholeDelivers. -/
import Derived.Test.YtdeogmbfgkepeaaGreatDoorR05
import Derived.Test.YtdeogmbfgkepeaaGreatDoorR37
set_option linter.unusedVariables false
set_option linter.unusedSimpArgs false
set_option maxRecDepth 100000
set_option maxHeartbeats 64000000
namespace Go.Proofs.YtdeogmbfgkepeaaGreatDoor
open Go.Proofs.Tryz
open Go.Value renaming int->O
open Go.IntKind renaming i64->J
section
open Go.RowKit HB DigP
structure CnW(w W:l6)(c1 c2:Array Value):Prop where
 h1:W.heap[w.heap.size]?=some (.cells c1 25 (0,0))
 h2:W.heap[w.heap.size+1]?=some (.cells c2 42 (0,0))
 low:Below w.heap.size w W
theorem CnW.lt{w W:l6}{c1 c2:Array Value}(h:CnW w W c1 c2):w.heap.size+1<W.heap.size:=by
 by_cases h1:w.heap.size+1<W.heap.size
 ·exact h1
 ·have:=h.h2;rw[Array.getElem?_eq_none (by omega)]at this;cases this
theorem CnW.below{w W W':l6}{c1 c2:Array Value}(h:CnW w W c1 c2)(hb:Below W.heap.size W W'):CnW w W' c1 c2:=by
 have hl:=h.lt;exact⟨by rw[hb.block _ (by omega)];exact h.h1,by rw[hb.block _ hl];exact h.h2,h.low.trans (hb.mono (by omega))⟩
theorem CnW.cell1{w W:l6}{c1 c2:Array Value}(h:CnW w W c1 c2)(k:Nat){v:Value}(hk:c1[k]?=some v):W.cell? ⟨w.heap.size,k,none⟩=some v:=by
 rw[cell_of_row _ _ _ _ _ _ h.h1];exact hk
theorem CnW.cell2{w W:l6}{c1 c2:Array Value}(h:CnW w W c1 c2)(k:Nat){v:Value}(hk:c2[k]?=some v):W.cell? ⟨w.heap.size+1,k,none⟩=some v:=by
 rw[cell_of_row _ _ _ _ _ _ h.h2];exact hk
theorem CnW.new(w:l6)(c1 c2:Array Value):CnW w ((w.alloc (.cells c1 25)).alloc (.cells c2 42)) c1 c2:=
 ⟨by
  have hb:Below (w.alloc (.cells c1 25)).heap.size (w.alloc (.cells c1 25)) ((w.alloc (.cells c1 25)).alloc (.cells c2 42)):=by go_grown
  rw[hb.block _ (by simp)];exact heap_alloc_new _ _,by
  have:=heap_alloc_new (w.alloc (.cells c1 25)) (.cells c2 42);simpa using this,by go_grown⟩
inductive Kd where
 |is (u:Value)
 |str
 |int
 |row
 |rows
def Kd.holds:Kd->Value->l6->Prop
 |.is u,v,_=>v=u
 |.str,v,_=>∃ x:iY,v=.string x/\x.size<=1000
 |.int,v,_=>∃ x:Int,v=O J x/\yQ x
 |.row,v,W=>∃ r:SRow,v=.slice r.A r.n r.k/\SRok W W.heap.size r
 |.rows,v,W=>∃(A:iX)(R:List SRow),v=.slice A 10 10/\Srs W W.heap.size A 10 R
theorem Kd.lasts(k:Kd)(v:Value)(W W':l6)(h:k.holds v W)(hb:Below W.heap.size W W'):k.holds v W':=by
 cases k with
 |is u=>exact h
 |str=>exact h
 |int=>exact h
 |row=>exact let⟨r,h1,h2⟩:=h;⟨r,h1,(h2.below hb).mono hb.size⟩
 |rows=>exact let⟨A,R,h1,h2⟩:=h;⟨A,R,h1,(h2.below hb).mono hb.size⟩
def eR(B:Nat)(tA:iX)(tn tk:Nat)(lA:iX)(ln lk:Nat)(hor a b c u x y z x2 y2 z2:Int)(bo bo2:Bool):List Kd:=
 [.is (.pointer (some ⟨B+1,0,none⟩)),.is (.slice tA tn tk),.is (O J tn),.str,.row,.is (O J a),.str,.row,.is (O J b),.str,.row,.is (O J c),.str,.row,.is (.pointer (some ⟨B+1,0,none⟩)),.is (.slice tA tn tk),.is (.pointer (some ⟨B,10,none⟩)),.is (O J hor),.int,.str,.row,.is (je x y z),.is (.bool bo),.str,.row,.is (je x2 y2 z2),.is (.bool bo2),.str,.row,.is (.pointer (some ⟨B+1,1,none⟩)),.is (.slice lA ln lk),.is (.pointer (some ⟨B,10,none⟩)),.is (O J hor),.int,.str,.row,.is (.pointer (some ⟨B+1,1,none⟩)),.is (.slice lA ln lk),.is (.pointer (some ⟨B,10,none⟩)),.is (O J hor),.int,.str,.row,.is (.pointer (some ⟨B+1,2,none⟩)),.is (O J u),.str,.row,.rows,.rows]
section
variable{P:Program}{o:Oper}{act:Act}{W:l6}{k:Kd}{Q:Exit->Act->l6->Prop}
theorem zR{v:Value}(h:(execOp act.eval o).run P W=.ok (.value v) W)(hs:k.holds v W):o.wp P act W (fun a' w'=>Below W.heap.size W w'/\∃ v,a'=act.put o.dst v/\k.holds v w') Q:=by
 unfold Oper.wp;rw[h];exact⟨fh,v,rfl,hs⟩
theorem jH{v:Value}{W':l6}(h:(execOp act.eval o).run P W=.ok (.value v) W')(hb:Below W.heap.size W W')(hs:k.holds v W'):o.wp P act W (fun a' w'=>Below W.heap.size W w'/\∃ v,a'=act.put o.dst v/\k.holds v w') Q:=by
 unfold Oper.wp;rw[h];exact⟨hb,v,rfl,hs⟩
theorem js{f:FuncId}{args:Array Value}(h:(execOp act.eval o).run P W=.ok (.enter f args) W)(hc:Calls P f args W fun e w'=>(∃v,e=.returned v/\k.holds v w')/\Below W.heap.size W w'):o.wp P act W (fun a' w'=>Below W.heap.size W w'/\∃ v,a'=act.put o.dst v/\k.holds v w') Q:=by
 unfold Oper.wp;rw[h];refine Calls.mono hc ?_;rintro e w' ⟨⟨v,rfl,hs⟩,hb⟩;exact⟨hb,v,rfl,hs⟩
end
theorem qC(n:Int)(h:yQ n)(W:l6):Calls prog 21 #[O J n] W fun e w'=>(∃v,e=.returned v/\Kd.str.holds v w')/\Below W.heap.size W w':=
 (ja n h W).mono fun e w'⟨he,hb⟩=>⟨⟨_,he,_,rfl,by have:=jc n h;omega⟩,hb⟩
theorem jO(W:l6)(x y:iY)(hx:x.size<=1000)(hy:y.size<=1000):Kd.row.holds (.slice (some ⟨W.heap.size,0,none⟩) 2 2) (W.alloc (.cells #[.string x,.string y] 9)):=by
 refine⟨⟨some ⟨W.heap.size,0,none⟩,2,2,[x,y]⟩,rfl,?_,rfl,by show 2<=100;omega,fun b off e=>?_,fun z hz=>?_⟩
 ·exact(Rd.new W 9 (xs:=[.string x,.string y]) (n:=2) (sz:=1) rfl).mono (by simp)
 ·cases e;simp
 ·simp at hz;rcases hz with rfl|rfl<;>assumption
theorem KD{f:FuncId}{args:Array Value}{W:l6}(h:Calls prog f args W fun e w'=>(∃a:Int,e=.returned (O J a)/\yQ a)/\Below W.heap.size W w'):Calls prog f args W fun e w'=>(∃v,e=.returned v/\Kd.int.holds v w')/\Below W.heap.size W w':=
 h.mono fun e w'⟨⟨a,he,ha⟩,hb⟩=>⟨⟨_,he,a,rfl,ha⟩,hb⟩
theorem Ge{f:FuncId}{args:Array Value}{W:l6}(h:Calls prog f args W fun e w'=>(∃a:Int,e=.returned (O J a)/\0<=a/\a<=5000000000000000000)/\Below W.heap.size W w'):Calls prog f args W fun e w'=>(∃v,e=.returned v/\Kd.int.holds v w')/\Below W.heap.size W w':=
 h.mono fun e w'⟨⟨a,he,h0,h1⟩,hb⟩=>⟨⟨_,he,a,rfl,⟨by omega,by omega⟩⟩,hb⟩
theorem KE{f:FuncId}{args:Array Value}{W:l6}(h:Calls prog f args W fun e w'=>Xg 100 e/\Below W.heap.size W w'):Calls prog f args W fun e w'=>(∃v,e=.returned v/\Kd.str.holds v w')/\Below W.heap.size W w':=
 h.mono fun e w'⟨⟨a,he,ha⟩,hb⟩=>⟨⟨_,he,a,rfl,by omega⟩,hb⟩
theorem Gf(W:l6)(l:List SRow)(hl:l.length=10)(h:∀ r∈l,SRok W W.heap.size r):Kd.rows.holds (.slice (some ⟨W.heap.size,0,none⟩) 10 10) (W.alloc (.cells (l.flatMap src).toArray 49)):=by
 have hb:Below W.heap.size W (W.alloc (.cells (l.flatMap src).toArray 49)):=by go_grown
 refine⟨some ⟨W.heap.size,0,none⟩,l,rfl,(Rd.new W 49 (xs:=l.flatMap src) (n:=10) (sz:=1) (by rw[flat_length Q9,hl])).mono (by simp),hl,fun r hr=>((h r hr).below hb).mono hb.size⟩
theorem ce{V W:l6}{q:Nat}{x y z:Int}(hq:q<V.heap.size)(h:V.heap[q]?=some (.cells #[O J x,O J y,O J z] 60 (0,0)))(hb:Below V.heap.size V W):
  W.cell? ⟨q,0,none⟩=some (O J x)/\W.cell? ⟨q,1,none⟩=some (O J y)/\W.cell? ⟨q,2,none⟩=some (O J z):=by
 have h9:W.heap[q]?=_:=(hb.block _ hq).trans h;exact⟨by rw[cell_of_row _ _ _ _ _ _ h9];rfl,by rw[cell_of_row _ _ _ _ _ _ h9];rfl,by rw[cell_of_row _ _ _ _ _ _ h9];rfl⟩
def Fq(x y z:Int)(bo:Bool):Prop:=bo=true->0<=x/\x<2147483648/\0<=y/\y<z/\z<2147483648
theorem KF{e:Ending}(h:Y9 e):∃(x y z:Int)(bo:Bool),e=.returned (.tuple #[je x y z,.bool bo])/\Fq x y z bo:=by
 obtain⟨x,y,z,he,h1,h2,h3⟩:=h;exact⟨x,y,z,true,he,fun _=>⟨by omega,by omega,by omega,by omega,by omega⟩⟩
theorem Uf{e:Ending}(h:G8 e):∃(x y z:Int)(bo:Bool),e=.returned (.tuple #[je x y z,.bool bo])/\Fq x y z bo:=by
 rcases h with h|⟨x,y,z,he⟩
 ·exact KF h
 ·exact⟨x,y,z,false,he,fun h=>by cases h⟩
theorem KG(x y z:Int)(bo:Bool)(h:Fq x y z bo)(w:l6):Calls prog 151 #[je x y z,.bool bo] w fun e w'=>Xg 100 e/\Below w.heap.size w w':=by
 cases bo with
 |false=>exact Qd x y z w
 |true=>
  obtain⟨h1,h2,h3,h4,h5⟩:=h rfl;obtain⟨a,rfl⟩:=QM h1;obtain⟨b,rfl⟩:=QM h3;obtain⟨c,rfl⟩:=QM (show 0<=z by omega);exact Ue a b c (by omega) (by omega) (by omega) w
theorem fq{act:Act}{W:l6}{o:Oper}{d:Nat}{s:iY}{Q:Exit->Act->l6->Prop}(h:Kd.str.holds (act.tmps.getD d undef) W)(hs:s.size<=1000)(ho:o.op=.buildSlice 49 2 #[(0,.const (.string s)),(1,.tmp d)]):o.wp prog act W (fun a' w'=>Below W.heap.size W w'/\∃ v,a'=act.put o.dst v/\Kd.row.holds v w') Q:=by
 obtain⟨x,e,l⟩:=h;refine jH (k:=.row) (W':=W.alloc (.cells #[.string s,.string x] 9)) (v:=.slice (some ⟨W.heap.size,0,none⟩) 2 2) ?_ ?_ ?_
 ·simp only[execOp,ho,W9,JF,Vm,Act.eval,e];go_simp
 ·go_grown
 ·exact jO W _ x hs l
theorem ft{act:Act}{W:l6}{o:Oper}{d:Nat}{n:Int}{Q:Exit->Act->l6->Prop}(h:act.tmps.getD d undef=O J n)(hn:yQ n)(ho:o.op=.call {callee:=.value (.func 21),args:= #[.tmp d],argTypes:= #[3]}):o.wp prog act W (fun a' w'=>Below W.heap.size W w'/\∃ v,a'=act.put o.dst v/\Kd.str.holds v w') Q:=by
 refine js (k:=.str) (f:=21) (args:= #[O J n]) ?_ (qC _ hn W);simp only[execOp,ho,Act.eval,h];go_simp
theorem fu{act:Act}{W:l6}{o:Oper}{d:Nat}{Q:Exit->Act->l6->Prop}(h:Kd.int.holds (act.tmps.getD d undef) W)(ho:o.op=.call {callee:=.value (.func 21),args:= #[.tmp d],argTypes:= #[3]}):o.wp prog act W (fun a' w'=>Below W.heap.size W w'/\∃ v,a'=act.put o.dst v/\Kd.str.holds v w') Q:=by
 obtain⟨n,e,l⟩:=h;exact ft e l ho
theorem fo{act:Act}{W:l6}{o:Oper}{d:Nat}{p:Addr}{v:Value}{T:TypeId}{Q:Exit->Act->l6->Prop}(h:act.tmps.getD d undef=.pointer (some p))(k:W.cell? p=some v)(ho:o.op=.load T (.tmp d))(hT:(isAgg T).run prog W=.ok false W):o.wp prog act W (fun a' w'=>Below W.heap.size W w'/\∃ u,a'=act.put o.dst u/\(Kd.is v).holds u w') Q:=by
 refine zR (k:=.is v) (v:=v) ?_ rfl;simp only[execOp,ho,Act.eval,h];go_simp
theorem Xj(s:Sc)(hs:s.ok)(sA:iX)(sn sk:Nat)(tA:iX)(tn tk:Nat)(l:List Tr)(lA:iX)(ln lk:Nat)(R:List LgRow)(u:Int)(w:l6)
  (ht:Trs w w.heap.size tA tn l)(htn:tn<=1000000)(hok:∀ t∈l,t.ok)(hl:Lgs w w.heap.size lA ln R)(hln:ln<=20)(hu:yQ u):
  Calls prog 112 #[s.v sA sn sk,.agg #[.slice tA tn tk,.slice lA ln lk,O J u]] w fun e w'=>(∃(A:iX)(R':List SRow),e=.returned (.slice A 10 10)/\Srs w' w'.heap.size A 10 R')/\Below w.heap.size w w':=by
 have HC:=ze (fun W(hb:Below w.heap.size w W)=>yB tA tn tk w.heap.size l W (ht.below hb) hb.size (by omega));have HI:=ze (fun W(hb:Below w.heap.size w W)=>Qa lA ln lk w.heap.size R s.hor W (hl.below hb) hb.size hln (by have:=hs.hor;omega) (by have:=hs.hor;omega));have hw:=ze (fun W(hb:Below w.heap.size w W)=>WU tA tn tk w.heap.size l s.cars s.hor W (ht.below hb) hb.size htn hok hs.cars.1 (by have:=hs.cars;omega) hs.hor.1 (by have:=hs.hor;omega));have HH:=ze (fun W(hb:Below w.heap.size w W)=>JX tA tn tk w.heap.size l s.hor W (ht.below hb) hb.size (by omega) hs.hor.1 (by have:=hs.hor;omega));have HF:=ze (fun W(hb:Below w.heap.size w W)=>aI lA ln lk w.heap.size R s.hor W (hl.below hb) hb.size (by omega) (by have:=hs.hor;omega) (by have:=hs.hor;omega));have hq:=ze (fun W(hb:Below w.heap.size w W)=>WO lA ln lk w.heap.size R s.hor W (hl.below hb) hb.size (by omega) (by have:=hs.hor;omega) (by have:=hs.hor;omega));have HU:=ze hu;clear ht hok hl hu;have HN:=ze (CnW.new w (#[O J s.fl,O J s.gap,O J s.cars,O J s.cap,O J s.opn,O J s.dw,O J s.cl,O J s.tr,.slice sA sn sk,O J s.disp,O J s.hor,O J s.bins,O J s.width]) #[.slice tA tn tk,.slice lA ln lk,O J u])
 go_in
 go_upto_region 4 with(first
  |(go_at_call 11;(with_reducible refine(HC.o _ (by go_grown)).mono ?_);rintro r wA ⟨⟨a,b,c,rfl,hc,hz,he,h9,hi,hA,-⟩,hf⟩;have HA:=ze (HN.o.below hf);have k0:=HA.o.cell1 10 rfl;have k1:=HA.o.cell2 1 rfl;clear hf)
  |(go_at_call 148;(with_reducible refine(HI.o _ HA.o.low).mono ?_);rintro r wB ⟨h4,hg⟩;obtain⟨x,y,z,bo,rfl,hj⟩:=Uf h4;have h1:=ze ((HA.o.below hg).below ((Below.refl wB.heap.size wB).alloc fi (.cells #[O J x,O J y,O J z] 60)));have hv:=ze hj;clear hg h4 hj k0 k1;have k0:=h1.o.cell1 10 rfl;have k1:=h1.o.cell1 2 rfl;have k2:=h1.o.cell2 0 rfl)
  |(go_at_call 149;(with_reducible refine(hw.o _ h1.o.low).mono ?_);rintro r wC ⟨h4,ha⟩;obtain⟨x2,y2,z2,bo2,rfl,h2⟩:=KF h4;have h0:=ze ((h1.o.below ha).below ((Below.refl wC.heap.size wC).alloc fi (.cells #[O J x2,O J y2,O J z2] 60)));have h6:=ze h2;have h5:=ze ha;clear ha h4 h2 k0 k1 k2))
 have h8:wB.heap.size<wC.heap.size:=by have:=h5.o.size;simp at this;omega
 have c8:(wC.alloc (.cells #[O J x2,O J y2,O J z2] 60)).heap[wB.heap.size]?=some (.cells #[O J x,O J y,O J z] 60 (0,0)):=by
  have h9:Below wC.heap.size wC (wC.alloc (.cells #[O J x2,O J y2,O J z2] 60)):=by go_grown
  rw[h9.block _ h8,h5.o.block _ (by simp)];exact heap_alloc_new _ _
 have c10:=heap_alloc_new wC (.cells #[O J x2,O J y2,O J z2] 60);have h7:=ze (show a<=1000000/\b<=1000000/\c<=1000000/\0<=a/\0<=b/\0<=c from⟨by omega,by omega,by omega,hc,he,hi⟩);obtain⟨q8,hk⟩:∃ q,q=wB.heap.size:=⟨_,rfl⟩;obtain⟨q10,h3⟩:∃ q,q=wC.heap.size:=⟨_,rfl⟩;rw[<-hk]at c8 h8⊢;rw[<-h3]at c10 h8⊢;have H8:=ze c8;have hm:=ze c10;have hy:q10<(wC.alloc (.cells #[O J x2,O J y2,O J z2] 60)).heap.size:=by simp;omega
 clear c8 c10 h5 hk h3 h1 HA HN hc hz he h9 hi hA;generalize wC.alloc (.cells #[O J x2,O J y2,O J z2] 60)=V at*;have B8:=ze (fun W(hb:Below V.heap.size V W)=>ce (by omega) H8.o hb);have B10:=ze (fun W(hb:Below V.heap.size V W)=>ce (by omega) hm.o hb);refine jG (S:=fun i v W=>((eR w.heap.size tA tn tk lA ln lk s.hor a b c u x y z x2 y2 z2 bo bo2).getD i .str).holds v W) (by rfl) (by kernel_rfl) (fun i v W W' h hb=>Kd.lasts _ v W W' h hb) ⟨?s0,?s1,?s2,?s3,?s4,?s5,?s6,?s7,?s8,?s9,?s10,?s11,?s12,?s13,?s14,?s15,?s16,?s17,?s18,?s19,?s20,?s21,?s22,?s23,?s24,?s25,?s26,?s27,?s28,?s29,?s30,?s31,?s32,?s33,?s34,?s35,?s36,?s37,?s38,?s39,?s40,?s41,?s42,?s43,?s44,?s45,?s46,?s47,?s48,trivial⟩ (fun act W H=>?fin)
 case s0|s5|s8|s11|s14|s16|s22|s26|s29|s31|s36|s38|s43=>
  intro act W hb ho hn;have e3:act.tmps.getD 3 undef=.pointer (some ⟨w.heap.size+1,0,none⟩):=ho 3 (by kernel_rfl);have e5:act.tmps.getD 5 undef=O J a:=ho 5 (by kernel_rfl);have e6:act.tmps.getD 6 undef=O J b:=ho 6 (by kernel_rfl);have e7:act.tmps.getD 7 undef=O J c:=ho 7 (by kernel_rfl);have e2:act.tmps.getD 2 undef=.pointer (some ⟨w.heap.size,0,none⟩):=ho 2 (by kernel_rfl);have e9:act.tmps.getD 9 undef=.bool bo:=ho 9 (by kernel_rfl);have e11:act.tmps.getD 11 undef=.bool bo2:=ho 11 (by kernel_rfl);refine zR ?_ rfl;simp only[execOp,Act.eval,e3,e5,e6,e7,e2,e9,e11];go_simp
 case s1=>
  intro act W hb ho hn;exact fo (hn 0 _ 37 (by kernel_rfl) rfl rfl) ((h0.o.below hb).cell2 0 rfl) rfl (by kernel_rfl)
 case s2=>
  intro act W hb ho hn;have e38:=hn 1 _ 38 (by kernel_rfl) rfl rfl;have e38:act.tmps.getD 38 undef=(.slice tA tn tk):=e38;refine zR (k:=.is (O J tn)) ?_ rfl;simp only[execOp,Act.eval,e38];go_simp
 case s3=>
  intro act W hb ho hn;exact ft (hn 2 _ 39 (by kernel_rfl) rfl rfl) ⟨by omega,by omega⟩ rfl
 case s4=>
  intro act W hb ho hn;exact fq (hn 3 _ 40 (by kernel_rfl) rfl rfl) (by decide) rfl
 case s6=>
  intro act W hb ho hn;exact ft (hn 5 _ 42 (by kernel_rfl) rfl rfl) (by have:=h7.o;exact⟨by omega,by omega⟩) rfl
 case s7=>
  intro act W hb ho hn;exact fq (hn 6 _ 43 (by kernel_rfl) rfl rfl) (by decide) rfl
 case s9=>
  intro act W hb ho hn;exact ft (hn 8 _ 45 (by kernel_rfl) rfl rfl) (by have:=h7.o;exact⟨by omega,by omega⟩) rfl
 case s10=>
  intro act W hb ho hn;exact fq (hn 9 _ 46 (by kernel_rfl) rfl rfl) (by decide) rfl
 case s12=>
  intro act W hb ho hn;exact ft (hn 11 _ 48 (by kernel_rfl) rfl rfl) (by have:=h7.o;exact⟨by omega,by omega⟩) rfl
 case s13=>
  intro act W hb ho hn;exact fq (hn 12 _ 49 (by kernel_rfl) rfl rfl) (by decide) rfl
 case s15=>
  intro act W hb ho hn;exact fo (hn 14 _ 51 (by kernel_rfl) rfl rfl) ((h0.o.below hb).cell2 0 rfl) rfl (by kernel_rfl)
 case s17=>
  intro act W hb ho hn;exact fo (hn 16 _ 53 (by kernel_rfl) rfl rfl) ((h0.o.below hb).cell1 10 rfl) rfl (by kernel_rfl)
 case s18=>
  intro act W hb ho hn;have e52:=hn 15 _ 52 (by kernel_rfl) rfl rfl;have e52:act.tmps.getD 52 undef=(.slice tA tn tk):=e52;have e54:=hn 17 _ 54 (by kernel_rfl) rfl rfl;have e54:act.tmps.getD 54 undef=(O J s.hor):=e54;refine js (k:=.int) (f:=150) (args:= #[(.slice tA tn tk),(O J s.hor)]) ?_ ?_
  ·simp only[execOp,Act.eval,e52,e54];go_simp
  exact KD (HH.o _ (h0.o.below hb).low)
 case s19=>
  intro act W hb ho hn;exact fu (hn 18 _ 55 (by kernel_rfl) rfl rfl) rfl
 case s20=>
  intro act W hb ho hn;exact fq (hn 19 _ 56 (by kernel_rfl) rfl rfl) (by decide) rfl
 case s21=>
  intro act W hb ho hn;have e8:act.tmps.getD 8 undef=.pointer (some ⟨q8,0,none⟩):=ho 8 (by kernel_rfl);obtain⟨k0,k1,k2⟩:=B8.o W hb;refine zR (k:=.is (je x y z)) ?_ rfl;simp only[execOp,Act.eval,e8];go_simp
 case s23=>
  intro act W hb ho hn;have e58:=hn 21 _ 58 (by kernel_rfl) rfl rfl;have e58:act.tmps.getD 58 undef=(je x y z):=e58;have e59:=hn 22 _ 59 (by kernel_rfl) rfl rfl;have e59:act.tmps.getD 59 undef=(.bool bo):=e59;refine js (k:=.str) (f:=151) (args:= #[(je x y z),(.bool bo)]) ?_ ?_
  ·simp only[execOp,Act.eval,e58,e59];go_simp
  exact KE (KG _ _ _ _ hv.o W)
 case s24=>
  intro act W hb ho hn;exact fq (hn 23 _ 60 (by kernel_rfl) rfl rfl) (by decide) rfl
 case s25=>
  intro act W hb ho hn;have e10:act.tmps.getD 10 undef=.pointer (some ⟨q10,0,none⟩):=ho 10 (by kernel_rfl);obtain⟨k0,k1,k2⟩:=B10.o W hb;refine zR (k:=.is (je x2 y2 z2)) ?_ rfl;simp only[execOp,Act.eval,e10];go_simp
 case s27=>
  intro act W hb ho hn;have e62:=hn 25 _ 62 (by kernel_rfl) rfl rfl;have e62:act.tmps.getD 62 undef=(je x2 y2 z2):=e62;have e63:=hn 26 _ 63 (by kernel_rfl) rfl rfl;have e63:act.tmps.getD 63 undef=(.bool bo2):=e63;refine js (k:=.str) (f:=151) (args:= #[(je x2 y2 z2),(.bool bo2)]) ?_ ?_
  ·simp only[execOp,Act.eval,e62,e63];go_simp
  exact KE (KG _ _ _ _ h6.o W)
 case s28=>
  intro act W hb ho hn;exact fq (hn 27 _ 64 (by kernel_rfl) rfl rfl) (by decide) rfl
 case s30=>
  intro act W hb ho hn;exact fo (hn 29 _ 66 (by kernel_rfl) rfl rfl) ((h0.o.below hb).cell2 1 rfl) rfl (by kernel_rfl)
 case s32=>
  intro act W hb ho hn;exact fo (hn 31 _ 68 (by kernel_rfl) rfl rfl) ((h0.o.below hb).cell1 10 rfl) rfl (by kernel_rfl)
 case s33=>
  intro act W hb ho hn;have e67:=hn 30 _ 67 (by kernel_rfl) rfl rfl;have e67:act.tmps.getD 67 undef=(.slice lA ln lk):=e67;have e69:=hn 32 _ 69 (by kernel_rfl) rfl rfl;have e69:act.tmps.getD 69 undef=(O J s.hor):=e69;refine js (k:=.int) (f:=152) (args:= #[(.slice lA ln lk),(O J s.hor)]) ?_ ?_
  ·simp only[execOp,Act.eval,e67,e69];go_simp
  exact Ge (HF.o _ (h0.o.below hb).low)
 case s34=>
  intro act W hb ho hn;exact fu (hn 33 _ 70 (by kernel_rfl) rfl rfl) rfl
 case s35=>
  intro act W hb ho hn;exact fq (hn 34 _ 71 (by kernel_rfl) rfl rfl) (by decide) rfl
 case s37=>
  intro act W hb ho hn;exact fo (hn 36 _ 73 (by kernel_rfl) rfl rfl) ((h0.o.below hb).cell2 1 rfl) rfl (by kernel_rfl)
 case s39=>
  intro act W hb ho hn;exact fo (hn 38 _ 75 (by kernel_rfl) rfl rfl) ((h0.o.below hb).cell1 10 rfl) rfl (by kernel_rfl)
 case s40=>
  intro act W hb ho hn;have e74:=hn 37 _ 74 (by kernel_rfl) rfl rfl;have e74:act.tmps.getD 74 undef=(.slice lA ln lk):=e74;have e76:=hn 39 _ 76 (by kernel_rfl) rfl rfl;have e76:act.tmps.getD 76 undef=(O J s.hor):=e76;refine js (k:=.int) (f:=153) (args:= #[(.slice lA ln lk),(O J s.hor)]) ?_ ?_
  ·simp only[execOp,Act.eval,e74,e76];go_simp
  exact KD (hq.o _ (h0.o.below hb).low)
 case s41=>
  intro act W hb ho hn;exact fu (hn 40 _ 77 (by kernel_rfl) rfl rfl) rfl
 case s42=>
  intro act W hb ho hn;exact fq (hn 41 _ 78 (by kernel_rfl) rfl rfl) (by decide) rfl
 case s44=>
  intro act W hb ho hn;exact fo (hn 43 _ 80 (by kernel_rfl) rfl rfl) ((h0.o.below hb).cell2 2 rfl) rfl (by kernel_rfl)
 case s45=>
  intro act W hb ho hn;exact ft (hn 44 _ 81 (by kernel_rfl) rfl rfl) HU.o rfl
 case s46=>
  intro act W hb ho hn;exact fq (hn 45 _ 82 (by kernel_rfl) rfl rfl) (by decide) rfl
 case s47=>
  intro act W hb ho hn;have e41:=hn 4 _ 41 (by kernel_rfl) rfl rfl;obtain⟨r41,e41,l41⟩:∃ r:SRow,act.tmps.getD 41 undef=.slice r.A r.n r.k/\SRok W W.heap.size r:=e41;have e44:=hn 7 _ 44 (by kernel_rfl) rfl rfl;obtain⟨r44,e44,l44⟩:∃ r:SRow,act.tmps.getD 44 undef=.slice r.A r.n r.k/\SRok W W.heap.size r:=e44;have e47:=hn 10 _ 47 (by kernel_rfl) rfl rfl;obtain⟨r47,e47,l47⟩:∃ r:SRow,act.tmps.getD 47 undef=.slice r.A r.n r.k/\SRok W W.heap.size r:=e47;have e50:=hn 13 _ 50 (by kernel_rfl) rfl rfl;obtain⟨r50,e50,l50⟩:∃ r:SRow,act.tmps.getD 50 undef=.slice r.A r.n r.k/\SRok W W.heap.size r:=e50;have e57:=hn 20 _ 57 (by kernel_rfl) rfl rfl;obtain⟨r57,e57,l57⟩:∃ r:SRow,act.tmps.getD 57 undef=.slice r.A r.n r.k/\SRok W W.heap.size r:=e57;have e61:=hn 24 _ 61 (by kernel_rfl) rfl rfl;obtain⟨r61,e61,l61⟩:∃ r:SRow,act.tmps.getD 61 undef=.slice r.A r.n r.k/\SRok W W.heap.size r:=e61;have e65:=hn 28 _ 65 (by kernel_rfl) rfl rfl;obtain⟨r65,e65,l65⟩:∃ r:SRow,act.tmps.getD 65 undef=.slice r.A r.n r.k/\SRok W W.heap.size r:=e65;have e72:=hn 35 _ 72 (by kernel_rfl) rfl rfl;obtain⟨r72,e72,l72⟩:∃ r:SRow,act.tmps.getD 72 undef=.slice r.A r.n r.k/\SRok W W.heap.size r:=e72;have e79:=hn 42 _ 79 (by kernel_rfl) rfl rfl;obtain⟨r79,e79,l79⟩:∃ r:SRow,act.tmps.getD 79 undef=.slice r.A r.n r.k/\SRok W W.heap.size r:=e79;have e83:=hn 46 _ 83 (by kernel_rfl) rfl rfl;obtain⟨r83,e83,l83⟩:∃ r:SRow,act.tmps.getD 83 undef=.slice r.A r.n r.k/\SRok W W.heap.size r:=e83;refine jH (k:=.rows) (W':=W.alloc (.cells #[.slice r41.A r41.n r41.k,.slice r44.A r44.n r44.k,.slice r47.A r47.n r47.k,.slice r50.A r50.n r50.k,.slice r57.A r57.n r57.k,.slice r61.A r61.n r61.k,.slice r65.A r65.n r65.k,.slice r72.A r72.n r72.k,.slice r79.A r79.n r79.k,.slice r83.A r83.n r83.k] 49)) (v:=.slice (some ⟨W.heap.size,0,none⟩) 10 10) ?_ ?_ ?_
  ·simp only[execOp,W9,JF,Vm,Act.eval,e41,e44,e47,e50,e57,e61,e65,e72,e79,e83];go_simp
  ·go_grown
  ·exact Gf W [r41,r44,r47,r50,r57,r61,r65,r72,r79,r83] rfl (by intro r hr;simp only[qx,Zl,or_false]at hr;rcases hr with rfl|rfl|rfl|rfl|rfl|rfl|rfl|rfl|rfl|rfl<;>assumption)
 case s48=>
  intro act W hb ho hn;have e84:=hn 47 _ 84 (by kernel_rfl) rfl rfl;obtain⟨A84,R84,e84,l84⟩:∃(A:iX)(R:List SRow),act.tmps.getD 84 undef=.slice A 10 10/\Srs W W.heap.size A 10 R:=e84;exact zR (k:=.rows) (by simp only[execOp,Act.eval,e84];go_simp) ⟨A84,R84,rfl,l84⟩
 case fin=>
  obtain⟨A,R',e4,l4⟩:∃(A:iX)(R:List SRow),act.tmps.getD 4 undef=.slice A 10 10/\Srs W W.heap.size A 10 R:=H.new 48 _ 4 rfl rfl (by kernel_rfl);have hp:=ze ((h0.o.below H.bel).low);obtain⟨tmps,dfr⟩:=act;have hd:=H.dfr;dsimp only at hd e4;subst hd;have e4':tmps[4]?.getD undef=.slice A 10 10:=by rw[<-Array.getD_eq_getD_getElem?];exact e4
  go_wp2_with fail;go_ret;exact⟨⟨A,R',congrArg Ending.returned e4,l4⟩,hp.o⟩
end
section
open Go.RowKit HB DigP HistP
structure SRs(w:l6)(base:Nat)(v:Value)(R:List SRow):Prop where
 own:Own w base 49 1 src v R
 ok:∀ r∈R,SRok w w.heap.size r/\∀ b off,r.A=some ⟨b,off,none⟩->v.ownBlock≠some b
theorem SRs.step{w w':l6}{base:Nat}{v:Value}{R:List SRow}(h:SRs w base v R)(hb:Below w.heap.size w w'):SRs w' base v R:=
 ⟨h.own.but (But.of_below hb) (fun k _ h=>h),fun r hr=>⟨((h.ok r hr).1.below hb).mono hb.size,(h.ok r hr).2⟩⟩
theorem SRs.push{w w':l6}{base:Nat}{v v':Value}{R:List SRow}{r:SRow}(h:SRs w base v R)(hr:SRok w w.heap.size r)(hn:∀ b off,r.A=some ⟨b,off,none⟩->v.ownBlock≠some b)
  (ho:Own w' base 49 1 src v' (R++[r]))(hg:w.grownBy w' v.ownBlock)(hv:v'.ownBlock=v.ownBlock\/v'.ownBlock=some w.heap.size):SRs w' base v' (R++[r]):=by
 have hb:But (fun k=>v.ownBlock=some k) w w':=(But.refl _ w).grown hg (fun q hq _=>hq);have key:∀ r:SRow,SRok w w.heap.size r->(∀b off,r.A=some ⟨b,off,none⟩->v.ownBlock≠some b)->SRok w' w'.heap.size r/\∀ b off,r.A=some ⟨b,off,none⟩->v'.ownBlock≠some b:=by
  intro r h1 h2;refine⟨⟨(ul h1.rd hb h2).mono hb.size,h1.len,h1.n,fun b off e=>kK (h1.lt b off e) hb.size,h1.x⟩,fun b off e e2=>?_⟩;rcases hv with hv|hv
  ·exact h2 b off e (hv▸e2)
  ·have:=h1.lt b off e;have h3:w.heap.size=b:=ve (hv.symm.trans e2);omega
 refine⟨ho,fun x hx=>?_⟩;rcases yp.1 hx with hx|hx
 ·exact key x (h.ok x hx).1 (h.ok x hx).2
 ·rw[vN.1 hx];exact key r hr hn
theorem KJ(W:l6)(x y z:iY)(hx:x.size<=1000)(hy:y.size<=1000)(hz:z.size<=1000):SRok (W.alloc (.cells #[.string x,.string y,.string z] 9)) (W.heap.size+1) ⟨some ⟨W.heap.size,0,none⟩,3,3,[x,y,z]⟩:=by
 refine⟨?_,rfl,by show 3<=100;omega,fun b off e=>?_,fun u hu=>?_⟩
 ·exact Rd.new W 9 (xs:=[.string x,.string y,.string z]) (n:=3) (sz:=1) rfl
 ·cases e;simp
 ·simp at hu;rcases hu with rfl|rfl|rfl<;>assumption
theorem SRs.first(W:l6)(base:Nat)(h:base<=W.heap.size)(x y z:iY)(hx:x.size<=1000)(hy:y.size<=1000)(hz:z.size<=1000):
  SRs ((W.alloc (.cells #[.string x,.string y,.string z] 9)).alloc (.cells #[.slice (some ⟨W.heap.size,0,none⟩) 3 3] 49)) base (.slice (some ⟨W.heap.size+1,0,none⟩) 1 1) [⟨some ⟨W.heap.size,0,none⟩,3,3,[x,y,z]⟩]:=by
 have h1:=KJ W x y z hx hy hz;have ho:=Own.block (base:=base) (f:=src) (sz:=1) (W.alloc (.cells #[.string x,.string y,.string z] 9)) 49 #[.slice (some ⟨W.heap.size,0,none⟩) 3 3] [⟨some ⟨W.heap.size,0,none⟩,3,3,[x,y,z]⟩] (by simp;omega) rfl (fun _=>rfl) (by simp);have hs:(W.alloc (.cells #[.string x,.string y,.string z] 9)).heap.size=W.heap.size+1:=by simp
 rw[hs]at ho;refine⟨ho,fun r hr=>?_⟩;rw[vN.1 hr];refine⟨(h1.below (fh.alloc (by simp) _)).mono (by simp),fun b off e e2=>?_⟩;cases e;have e3:some (W.heap.size+1)=some W.heap.size:=e2;simp at e3
theorem Jh{P:Program}{ops:Array Oper}{md:Region.Mode}{Q:Exit->Act->l6->Prop}{i fuel:Nat}{listed:Array Bool}{a:Act}{w:l6}{o:Oper}(hr:Region.ready md ops listed=[i])(ho:ops[i]?=some o)
  (h:if Region.wanted o (yielded ops a.tmps)=true then o.wp P a w (wpAny P md ops Q fuel (listed.setIfInBounds i true)) Q else False):wpAny P md ops Q (fuel+1) listed a w:=by
 refine wpAny_all hr (by simp) (fun j hj=>?_);rw[vN.1 hj];unfold wpOp;rw[ho];dsimp only;split at h
 ·rename_i hw;rw[if_pos hw];exact .inl h
 ·exact h.elim
inductive Kb where
 |is (u:Value)
 |row (N:Nat) (l:List iY)
 |one (N:Nat) (l:List iY)
def Kb.holds:Kb->Value->l6->Prop
 |.is u,v,_=>v=u
 |.row N l,v,W=>∃ g,v=.slice (some ⟨g,0,none⟩) 3 3/\SRok W W.heap.size ⟨some ⟨g,0,none⟩,3,3,l⟩/\N<=g
 |.one N l,v,W=>∃ g q,v=.slice (some ⟨q,0,none⟩) 1 1/\q<W.heap.size/\W.cell? ⟨q,0,none⟩=some (.slice (some ⟨g,0,none⟩) 3 3)/\SRok W W.heap.size ⟨some ⟨g,0,none⟩,3,3,l⟩/\N<=g
theorem Kb.lasts(k:Kb)(v:Value)(W W':l6)(h:k.holds v W)(hb:Below W.heap.size W W'):k.holds v W':=by
 cases k with
 |is u=>exact h
 |row N l=>exact let⟨g,h1,h2,h3⟩:=h;⟨g,h1,(h2.below hb).mono hb.size,h3⟩
 |one N l=>exact let⟨g,q,h1,h2,h3,h4,h5⟩:=h;⟨g,q,h1,kK h2 hb.size,(hb.cell (p:=⟨q,0,none⟩) h2).trans h3,(h4.below hb).mono hb.size,h5⟩
def eS(v:Value)(N m:Nat)(d:Int)(j:Nat)(aA bA:iX)(ac bc ab ao bb bo:Nat)(x y:Int):List Kb:=
 [.is v,.is (O J m),.is (O J d),.is (O J j),.is (.string (jo m d j)),.is (.slice aA m ac),.is (O J j),.is (.pointer (some ⟨ab,ao+j,none⟩)),.is (O J x),.is (.string (zC x)),
  .is (.slice bA m bc),.is (O J j),.is (.pointer (some ⟨bb,bo+j,none⟩)),.is (O J y),.is (.string (zC y)),.row N [jo m d j,zC x,zC y],.one N [jo m d j,zC x,zC y]]
section
variable{P:Program}{o:Oper}{act:Act}{W:l6}{k:Kb}{Q:Exit->Act->l6->Prop}
theorem jl{v:Value}{W':l6}(h:(execOp act.eval o).run P W=.ok (.value v) W')(hb:Below W.heap.size W W')(hs:k.holds v W'):o.wp P act W (fun a' w'=>Below W.heap.size W w'/\∃ v,a'=act.put o.dst v/\k.holds v w') Q:=by
 unfold Oper.wp;rw[h];exact⟨hb,v,rfl,hs⟩
theorem Qj{f:FuncId}{args:Array Value}{u:Value}(h:(execOp act.eval o).run P W=.ok (.enter f args) W)(hc:Calls P f args W fun e w'=>e=.returned u/\Below W.heap.size W w'):o.wp P act W (fun a' w'=>Below W.heap.size W w'/\∃ v,a'=act.put o.dst v/\(Kb.is u).holds v w') Q:=by
 unfold Oper.wp;rw[h];refine Calls.mono hc ?_;rintro e w' ⟨rfl,hb⟩;exact⟨hb,u,rfl,rfl⟩
end
theorem Uj(m:Nat)(d:Int)(j:Nat)(hm:m<=64)(hj:j<m)(h0:1<=d)(h1:d<=4096):(jo m d j).size<=1000:=by
 have m0:0<=(j:Int)*d:=JE (by omega) (by omega);have m1:(j:Int)*d<=64*4096:=yO (by omega) h1 (by omega) (by omega);have m2:((j:Int)+1)*d=(j:Int)*d+d:=by rw[Vo,Hy]
 have e1:=jc ((j:Int)*d) ⟨by omega,by omega⟩;have e2:=jc (((j:Int)+1)*d-1) ⟨by omega,by omega⟩;unfold jo;split
 ·rw[ByteArray.size_append];show _+1<=_;omega
 ·rw[ByteArray.size_append,ByteArray.size_append];show _+1+_<=_;omega
theorem Z3(b w:Int)(m:Nat)(ts:l8)(h:ts.length<=1000):∀ x∈zo b w m ts,yQ x:=by
 intro x hx;obtain⟨i,hi,he⟩:=List.mem_iff_getElem.1 hx;have hm:i<m:=by rw[zE]at hi;exact hi
 have hc:=Z1 (b:=b) (w:=w) (ts:=ts) hm (by rw[kD hi,he]);have h1:=ya b w ts i;rw[hc];exact⟨by omega,by omega⟩
def jL(m:Nat)(d:Int)(ca cb:l8)(i:Nat):List iY:=[jo m d i,zC (ca.getD i 0),zC (cb.getD i 0)]
def Qk:List iY:=[⟨#[116,105,99,107,115]⟩,⟨#[119,97,105,116]⟩,⟨#[116,114,97,110,115,105,116]⟩]
def zZ(m:Nat)(d:Int)(ca cb:l8)(k:Nat):List (List iY):=Qk::(List.range k).map (jL m d ca cb)
theorem Gj(m:Nat)(d:Int)(hm0:1<=m)(hm1:m<=64)(hd0:1<=d)(hd1:d<=4096)(hrt:eZ m d=true)(xA:iX)(xn xk:Nat)(xs:l8)(yA:iX)(yn yk:Nat)(ys:l8)(w:l6)
  (hx:Rd w w.heap.size 1 xA xn (xs.map (Value.int .i64)))(hxl:xs.length=xn)(hxn:xn<=1000)(hxw:∀ x∈xs,(Lit.int .i64 x).wf=true)(hxp:∀ x∈xs,0<=x)
  (hy:Rd w w.heap.size 1 yA yn (ys.map (Value.int .i64)))(hyl:ys.length=yn)(hyn:yn<=1000)(hyw:∀ x∈ys,(Lit.int .i64 x).wf=true)(hyp:∀ x∈ys,0<=x):
  Calls prog 113 #[O J m,O J d,.slice xA xn xk,.slice yA yn yk] w fun e w'=>(∃(A:iX)(k:Nat)(R:List SRow),e=.returned (.slice A R.length k)/\Srs w' w'.heap.size A R.length R/\R.map (·.l)=zZ m d (zo m d m xs) (zo m d m ys) m)/\Below w.heap.size w w':=by
 have H1:=ze (Yl xA xn xk w.heap.size m xs d w hx fi hxl hxn hxw hrt);have H2:=ze (fun W(hb:Below w.heap.size w W)=>Yl yA yn yk w.heap.size m ys d W (hy.below hb) hb.size hyl hyn hyw hrt);have hN:=ze (Z3 m d m xs (by omega));have hO:=ze (Z3 m d m ys (by omega));have hm:=ze hxp;have hp:=ze hyp;have hW:=ze hrt;clear hx hxl hxw hxp hy hyl hyw hyp hrt
 go_in
 go_upto_region 4 with(first
  |(go_at_call 154;(with_reducible refine H1.o.mono ?_);rintro r w1 ⟨hq,hF⟩;obtain⟨-,va,rfl,hD⟩:=hF.resolve_left (fun h=>h.1 hm.o);obtain⟨aA,ac,rfl,-,hc⟩:=hD.shape;rw[zE,zt]at hc;rw[zE];have h0:=ze hq;have hl:=ze hc;clear hF hq hD hc)
  |(go_at_call 154;(with_reducible refine(H2.o _ h0.o).mono ?_);rintro r w2 ⟨ht,hG⟩;obtain⟨-,vb,rfl,hE⟩:=hG.resolve_left (fun h=>h.1 hp.o);obtain⟨bA,bc,rfl,-,he⟩:=hE.shape;rw[zE,zt]at he;rw[zE];have h1:=ze ht;have hV:=ze he;clear hG ht hE he))
 have H6:=h0.o.size;have H7:=h1.o.size;have hU:=ze ((hl.o.below h1.o).mono H7);have hZ:(zo m d m xs).length=m:=zE _ _ _ _;have H0:(zo m d m ys).length=m:=zE _ _ _ _;generalize hA:zo m d m xs=ca at*;generalize hB:zo m d m ys=cb at*;have hf:=ze (iG hA hB);clear hA hB;have hJ:=ze (h0.o.trans (h1.o.mono H6));have HF:=ze (SRs.first w2 w2.heap.size fi ⟨#[116,105,99,107,115]⟩ ⟨#[119,97,105,116]⟩ ⟨#[116,114,97,110,115,105,116]⟩ (by decide) (by decide) (by decide));clear H1 H2 hm hp hl h0 h1;go_wp2_with fail
 go_loopw [13,33] (fun v i wr=>∃(j:Nat)(R:List SRow),j<=m/\i=O J j/\SRs wr w2.heap.size v R/\R.map (·.l)=zZ m d ca cb j/\Below w2.heap.size w2 wr) (fun _ i _=>m-(intOf i).toNat)
 case atStart=>exact⟨0,_,vf _,rfl,HF.o,rfl,by go_grown⟩
 case round=>
  obtain⟨j,R,hj,rfl,hs,hR,hb⟩:=hrel;have HS:=ze hs;have h5:=ze hR;have HB:=ze hb;have hz:=hb.size;clear hs hR hb HF;by_cases h3:j<m
  ·have h7:decide ((j:Int)<(m:Int))=true:=by simp;omega
   have HA:=ze (hU.o.below HB.o);have hM:=ze (hV.o.below HB.o);obtain⟨ab,ao,x,rfl,H8,h8,cx⟩:=HA.o.int_at hZ h3;obtain⟨bb,bo,y,rfl,Ha,ha,cy⟩:=hM.o.int_at H0 h3;have hg:=ze (hN.o x (jx h8));have hi:=ze (hO.o y (jx ha));have hS:=ze h8;have hT:=ze ha;have HX:=ze (fun W(hb:Below wr.heap.size wr W)=>(hb.cell (p:=⟨ab,ao+j,none⟩) (show ab<wr.heap.size by omega)).trans cx);have HY:=ze (fun W(hb:Below wr.heap.size wr W)=>(hb.cell (p:=⟨bb,bo+j,none⟩) (show bb<wr.heap.size by omega)).trans cy);have i0:(0:Int)<=(j:Int):=by omega
   have i1:(j:Int)<(m:Int):=by omega
   have hP:=ze (fun W=>Gi m d j hW.o (by omega) (by omega) hd0 hd1 i0 i1 W);have hQ:=ze (Uj m d j hm1 h3 hd0 hd1);have hX:=ze (jc x hg.o);have hY:=ze (jc y hi.o);clear h8 ha cx cy;go_upto_region 7 with(fail);refine Z0 (S:=fun i v W=>((eS u13 wr.heap.size m d j (some ⟨ab,ao,none⟩) (some ⟨bb,bo,none⟩) ac bc ab ao bb bo x y).getD i (.is undef)).holds v W) 17 (by rfl) (by kernel_rfl) (show 17<19 by omega) (by kernel_rfl) (fun i v W W' h hb=>Kb.lasts _ v W W' h hb) ⟨?s0,?s1,?s2,?s3,?s4,?s5,?s6,?s7,?s8,?s9,?s10,?s11,?s12,?s13,?s14,?s15,?s16,trivial⟩ (fun act W H=>?fin)
   case s0=>
    intro act W hb ho hn;have e13:act.tmps.getD 13 undef=u13:=ho 13 (by kernel_rfl);refine jl (k:=.is (u13)) ?_ fh rfl;simp only[execOp,Act.eval,e13];go_simp
   case s1=>
    intro act W hb ho hn;have e0:act.tmps.getD 0 undef=O J m:=ho 0 (by kernel_rfl);refine jl (k:=.is (O J m)) ?_ fh rfl;simp only[execOp,Act.eval,e0];go_simp
   case s2=>
    intro act W hb ho hn;have e1:act.tmps.getD 1 undef=O J d:=ho 1 (by kernel_rfl);refine jl (k:=.is (O J d)) ?_ fh rfl;simp only[execOp,Act.eval,e1];go_simp
   case s3=>
    intro act W hb ho hn;have e14:act.tmps.getD 14 undef=O J j:=ho 14 (by kernel_rfl);refine jl (k:=.is (O J j)) ?_ fh rfl;simp only[execOp,Act.eval,e14];go_simp
   case s4=>
    intro act W hb ho hn;have e37:act.tmps.getD 37 undef=O J m:=hn 1 _ 37 (by kernel_rfl) rfl rfl;have e38:act.tmps.getD 38 undef=O J d:=hn 2 _ 38 (by kernel_rfl) rfl rfl;have e39:act.tmps.getD 39 undef=O J j:=hn 3 _ 39 (by kernel_rfl) rfl rfl;refine Qj (u:=.string (jo m d j)) (f:=155) (args:= #[O J m,O J d,O J j]) ?_ (hP.o W);simp only[execOp,Act.eval,e37,e38,e39];go_simp
   case s5=>
    intro act W hb ho hn;have e9:act.tmps.getD 9 undef=.slice (some ⟨ab,ao,none⟩) m ac:=ho 9 (by kernel_rfl);refine jl (k:=.is (.slice (some ⟨ab,ao,none⟩) m ac)) ?_ fh rfl;simp only[execOp,Act.eval,e9];go_simp
   case s6=>
    intro act W hb ho hn;have e14:act.tmps.getD 14 undef=O J j:=ho 14 (by kernel_rfl);refine jl (k:=.is (O J j)) ?_ fh rfl;simp only[execOp,Act.eval,e14];go_simp
   case s7=>
    intro act W hb ho hn;have e41:act.tmps.getD 41 undef=.slice (some ⟨ab,ao,none⟩) m ac:=hn 5 _ 41 (by kernel_rfl) rfl rfl;have e42:act.tmps.getD 42 undef=O J j:=hn 6 _ 42 (by kernel_rfl) rfl rfl;refine jl (k:=.is (.pointer (some ⟨ab,ao+j,none⟩))) ?_ fh rfl;simp only[execOp,Act.eval,e41,e42];go_simp
   case s8=>
    intro act W hb ho hn;have e43:act.tmps.getD 43 undef=.pointer (some ⟨ab,ao+j,none⟩):=hn 7 _ 43 (by kernel_rfl) rfl rfl;have k:=HX.o W hb;refine jl (k:=.is (O J x)) ?_ fh rfl;simp only[execOp,Act.eval,e43];go_simp
   case s9=>
    intro act W hb ho hn;have e44:act.tmps.getD 44 undef=O J x:=hn 8 _ 44 (by kernel_rfl) rfl rfl;refine Qj (u:=.string (zC x)) (f:=21) (args:= #[O J x]) ?_ (ja _ hg.o W);simp only[execOp,Act.eval,e44];go_simp
   case s10=>
    intro act W hb ho hn;have e11:act.tmps.getD 11 undef=.slice (some ⟨bb,bo,none⟩) m bc:=ho 11 (by kernel_rfl);refine jl (k:=.is (.slice (some ⟨bb,bo,none⟩) m bc)) ?_ fh rfl;simp only[execOp,Act.eval,e11];go_simp
   case s11=>
    intro act W hb ho hn;have e14:act.tmps.getD 14 undef=O J j:=ho 14 (by kernel_rfl);refine jl (k:=.is (O J j)) ?_ fh rfl;simp only[execOp,Act.eval,e14];go_simp
   case s12=>
    intro act W hb ho hn;have e46:act.tmps.getD 46 undef=.slice (some ⟨bb,bo,none⟩) m bc:=hn 10 _ 46 (by kernel_rfl) rfl rfl;have e47:act.tmps.getD 47 undef=O J j:=hn 11 _ 47 (by kernel_rfl) rfl rfl;refine jl (k:=.is (.pointer (some ⟨bb,bo+j,none⟩))) ?_ fh rfl;simp only[execOp,Act.eval,e46,e47];go_simp
   case s13=>
    intro act W hb ho hn;have e48:act.tmps.getD 48 undef=.pointer (some ⟨bb,bo+j,none⟩):=hn 12 _ 48 (by kernel_rfl) rfl rfl;have k:=HY.o W hb;refine jl (k:=.is (O J y)) ?_ fh rfl;simp only[execOp,Act.eval,e48];go_simp
   case s14=>
    intro act W hb ho hn;have e49:act.tmps.getD 49 undef=O J y:=hn 13 _ 49 (by kernel_rfl) rfl rfl;refine Qj (u:=.string (zC y)) (f:=21) (args:= #[O J y]) ?_ (ja _ hi.o W);simp only[execOp,Act.eval,e49];go_simp
   case s15=>
    intro act W hb ho hn;have e40:act.tmps.getD 40 undef=.string (jo m d j):=hn 4 _ 40 (by kernel_rfl) rfl rfl;have e45:act.tmps.getD 45 undef=.string (zC x):=hn 9 _ 45 (by kernel_rfl) rfl rfl;have e50:act.tmps.getD 50 undef=.string (zC y):=hn 14 _ 50 (by kernel_rfl) rfl rfl;refine jl (k:=.row wr.heap.size [jo m d j,zC x,zC y]) (W':=W.alloc (.cells #[.string (jo m d j),.string (zC x),.string (zC y)] 9)) (v:=.slice (some ⟨W.heap.size,0,none⟩) 3 3) ?_ (by go_grown) ⟨W.heap.size,rfl,(KJ W _ _ _ hQ.o (by have:=hX.o;omega) (by have:=hY.o;omega)).mono (by simp),hb.size⟩;simp only[execOp,W9,JF,Vm,Act.eval,e40,e45,e50];go_simp
   case s16=>
    intro act W hb ho hn;obtain⟨g7,e51,l7,n7⟩:∃ g,act.tmps.getD 51 undef=.slice (some ⟨g,0,none⟩) 3 3/\SRok W W.heap.size ⟨some ⟨g,0,none⟩,3,3,[jo m d j,zC x,zC y]⟩/\wr.heap.size<=g:=hn 15 _ 51 (by kernel_rfl) rfl rfl;refine jl (k:=.one wr.heap.size [jo m d j,zC x,zC y]) (W':=W.alloc (.cells #[.slice (some ⟨g7,0,none⟩) 3 3] 49)) (v:=.slice (some ⟨W.heap.size,0,none⟩) 1 1) ?_ (by go_grown) ⟨g7,W.heap.size,rfl,by simp,cell_one_new _ _ _ 0 _ rfl,(l7.below (by go_grown)).mono (by simp),n7⟩;simp only[execOp,W9,JF,Vm,Act.eval,e51];go_simp
   case fin=>
    obtain⟨g7,q7,e52,Hc,k7,l7,n7⟩:∃ g q,act.tmps.getD 52 undef=.slice (some ⟨q,0,none⟩) 1 1/\q<W.heap.size/\W.cell? ⟨q,0,none⟩=some (.slice (some ⟨g,0,none⟩) 3 3)/\SRok W W.heap.size ⟨some ⟨g,0,none⟩,3,3,[jo m d j,zC x,zC y]⟩/\wr.heap.size<=g:=H.new 16 _ 52 rfl rfl (by kernel_rfl);have e36:act.tmps.getD 36 undef=u13:=H.new 0 _ 36 rfl rfl (by kernel_rfl);have o0:act.tmps.getD 0 undef=O J m:=H.old 0 (zn (by kernel_rfl));have o1:act.tmps.getD 1 undef=O J d:=H.old 1 (zn (by kernel_rfl));have o2:act.tmps.getD 2 undef=.slice xA xn xk:=H.old 2 (zn (by kernel_rfl));have o3:act.tmps.getD 3 undef=.slice yA yn yk:=H.old 3 (zn (by kernel_rfl));have o4:act.tmps.getD 4 undef=undef:=H.old 4 (zn (by kernel_rfl));have o5:act.tmps.getD 5 undef=undef:=H.old 5 (zn (by kernel_rfl));have o6:act.tmps.getD 6 undef=undef:=H.old 6 (zn (by kernel_rfl));have o7:act.tmps.getD 7 undef=undef:=H.old 7 (zn (by kernel_rfl));have o8:act.tmps.getD 8 undef=.slice none 0 0:=H.old 8 (zn (by kernel_rfl));have o9:act.tmps.getD 9 undef=.slice (some ⟨ab,ao,none⟩) m ac:=H.old 9 (zn (by kernel_rfl));have o10:act.tmps.getD 10 undef=O J 0:=H.old 10 (zn (by kernel_rfl));have o11:act.tmps.getD 11 undef=.slice (some ⟨bb,bo,none⟩) m bc:=H.old 11 (zn (by kernel_rfl));have o12:act.tmps.getD 12 undef=O J 0:=H.old 12 (zn (by kernel_rfl));have o13:act.tmps.getD 13 undef=u13:=H.old 13 (zn (by kernel_rfl));have o14:act.tmps.getD 14 undef=O J j:=H.old 14 (zn (by kernel_rfl));have o15:act.tmps.getD 15 undef=.tuple #[.slice (some ⟨ab,ao,none⟩) m ac,O J 0]:=H.old 15 (zn (by kernel_rfl));have o16:act.tmps.getD 16 undef=O J m:=H.old 16 (zn (by kernel_rfl));have o17:act.tmps.getD 17 undef=O J d:=H.old 17 (zn (by kernel_rfl));have o18:act.tmps.getD 18 undef=.slice xA xn xk:=H.old 18 (zn (by kernel_rfl));have o19:act.tmps.getD 19 undef=.tuple #[.slice (some ⟨ab,ao,none⟩) m ac,O J 0]:=H.old 19 (zn (by kernel_rfl));have o20:act.tmps.getD 20 undef=.slice (some ⟨ab,ao,none⟩) m ac:=H.old 20 (zn (by kernel_rfl));have o21:act.tmps.getD 21 undef=O J 0:=H.old 21 (zn (by kernel_rfl));have o22:act.tmps.getD 22 undef=.tuple #[.slice (some ⟨bb,bo,none⟩) m bc,O J 0]:=H.old 22 (zn (by kernel_rfl));have o23:act.tmps.getD 23 undef=O J m:=H.old 23 (zn (by kernel_rfl));have o24:act.tmps.getD 24 undef=O J d:=H.old 24 (zn (by kernel_rfl));have o25:act.tmps.getD 25 undef=.slice yA yn yk:=H.old 25 (zn (by kernel_rfl));have o26:act.tmps.getD 26 undef=.tuple #[.slice (some ⟨bb,bo,none⟩) m bc,O J 0]:=H.old 26 (zn (by kernel_rfl));have o27:act.tmps.getD 27 undef=.slice (some ⟨bb,bo,none⟩) m bc:=H.old 27 (zn (by kernel_rfl));have o28:act.tmps.getD 28 undef=O J 0:=H.old 28 (zn (by kernel_rfl));have o29:act.tmps.getD 29 undef=.slice (some ⟨w2.heap.size,0,none⟩) 3 3:=H.old 29 (zn (by kernel_rfl));have o30:act.tmps.getD 30 undef=.slice (some ⟨w2.heap.size+1,0,none⟩) 1 1:=H.old 30 (zn (by kernel_rfl));have o31:act.tmps.getD 31 undef=.slice (some ⟨ab,ao,none⟩) m ac:=H.old 31 (zn (by kernel_rfl));have o32:act.tmps.getD 32 undef=O J m:=H.old 32 (zn (by kernel_rfl));have o33:act.tmps.getD 33 undef=O J j:=H.old 33 (zn (by kernel_rfl));have o34:act.tmps.getD 34 undef=.bool true:=H.old 34 (zn (by kernel_rfl));have o35:act.tmps.getD 35 undef=O J j:=H.old 35 (zn (by kernel_rfl));have o53:act.tmps.getD 53 undef=u53:=H.old 53 (zn (by kernel_rfl));have o54:act.tmps.getD 54 undef=u54:=H.old 54 (zn (by kernel_rfl));have o55:act.tmps.getD 55 undef=undef:=H.old 55 (zn (by kernel_rfl));have hd:=H.dfr;have hI:=H.siz;have h4:=ze H.bel;obtain⟨tmps,dfr⟩:=act;dsimp only at*;subst hd;have e:=fv tmps 56 hI;dsimp only[fB,Nat.reduceAdd]at e;clear H hI;rw[e36,e52,o0,o1,o2,o3,o4,o5,o6,o7,o8,o9,o10,o11,o12,o13,o14,o15,o16,o17,o18,o19,o20,o21,o22,o23,o24,o25,o26,o27,o28,o29,o30,o31,o32,o33,o34,o35,o53,o54,o55]at e;clear e36 e52 o0 o1 o2 o3 o4 o5 o6 o7 o8 o9 o10 o11 o12 o13 o14 o15 o16 o17 o18 o19 o20 o21 o22 o23 o24 o25 o26 o27 o28 o29 o30 o31 o32 o33 o34 o35 o53 o54 o55;generalize Array.getD tmps=tg at e;subst e;have h6:=ze (HS.o.step h4.o);have Hj:=h4.o.size;have hl9:R.length<=1000000000:=by have h9:=congrArg List.length h5.o;simp[zZ]at h9;omega
    have hw:∀(i:Nat)(z:Value),(src (⟨some ⟨g7,0,none⟩,3,3,[jo m d j,zC x,zC y]⟩:SRow))[i]?=some z->W.cell? ((⟨q7,0,none⟩:Addr).add i)=some z:=by
     intro i z hz;cases i with
     |zero=>simp at hz;subst hz;exact k7
     |succ i=>simp at hz
    have hC:∀ b off,(some ⟨g7,0,none⟩:iX)=some ⟨b,off,none⟩->u13.ownBlock≠some b:=fun b off e e2=>by
     have h2:=(HS.o.own.row.lt b e2).2;cases e;omega
    refine Jh (i:=17) (fuel:=1) (by kernel_rfl) rfl ?_;refine jn (P:=prog) rfl _ _ 218 rfl underlying218 SRow.info rfl (by omega) (by omega) rfl h6.o.own (⟨some ⟨g7,0,none⟩,3,3,[jo m d j,zC x,zC y]⟩:SRow) ⟨q7,0,none⟩ 1 rfl rfl hw (by intro u hu;rw[vN.1 hu];rfl) hl9 (by omega) ?_;intro v9 w9 k1 k2 k3;have H9:=ze (h6.o.push l7 hC k1 k2 k3);have hL:=ze ((HB.o.trans (h4.o.mono hz)).grown k2 (by omega) (fun k hk=>(h6.o.own.row.lt k hk).1));clear k1 k2 k3 hw hC l7 k7
    try go_frame
    refine Jh (i:=18) (fuel:=0) (by kernel_rfl) rfl ?_;go_simp
    try go_frame
    refine wpAny_done (by kernel_rfl) ?_ _;go_wp2_with fail;go_roundw
    case rel=>
     refine⟨j+1,_,by omega,by go_num,H9.o,?_,hL.o⟩;have H4:ca.getD j 0=x:=by rw[QR,hS.o];rfl
     have H5:cb.getD j 0=y:=by rw[QR,hT.o];rfl
     rw[XW,h5.o];unfold zZ;rw[List.range_succ,XW,List.map_singleton,List.map_singleton];unfold jL;rw[H4,H5]
     rfl
    case measure=>simp[intOf];omega
  ·obtain rfl:j=m:=by omega
   have h7:decide ((j:Int)<(j:Int))=false:=by simp
   have HO:=HS.o.own;obtain⟨A,k,hv,-,H3⟩:=HO.shape;subst hv;clear h3;go_wp2_with fail;go_ret;exact⟨⟨A,k,R,rfl,⟨H3,rfl,fun r hr=>(HS.o.ok r hr).1⟩,by rw[hf.o.1,hf.o.2];exact h5.o⟩,hJ.o.trans (HB.o.mono (by omega))⟩
end
end Go.Proofs.YtdeogmbfgkepeaaGreatDoor
