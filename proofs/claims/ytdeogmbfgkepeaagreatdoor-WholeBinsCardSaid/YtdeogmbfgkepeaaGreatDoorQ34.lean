/- Contracts that WholeBins needs. Each tells its conditions. -/
import Derived.Test.YtdeogmbfgkepeaaGreatDoorQ20
import Derived.Test.YtdeogmbfgkepeaaGreatDoorQ22
import Derived.Test.YtdeogmbfgkepeaaGreatDoorQ23
import Derived.Test.YtdeogmbfgkepeaaGreatDoorQ28
set_option linter.unusedVariables false
set_option linter.unusedSimpArgs false
set_option maxRecDepth 100000
set_option maxHeartbeats 64000000
namespace Go.Proofs.YtdeogmbfgkepeaaGreatDoor
open Go.Proofs.Tryz
section
open Go.RowKit HB Go.Maps CalP
theorem Sets.info:(prog.info? 325).map (fun i=>(i.zero,i.size,i.bytes))=some (some (.agg #[.int .u64 0,.int .u64 0]),2,16):=by kernel_rfl
theorem bv(w:World)(a b:Int)(ty:TypeId):∀ j u,(JU (a,b))[j]?=some u->(w.alloc (.cells #[.int .u64 a,.int .u64 b] ty)).cell? ((⟨w.heap.size,0,none⟩:Addr).add j)=some u:=fun j u hu=>by
 have h:=(Bx.new w [.int .u64 a,.int .u64 b] ty j u hu).1;unfold Addr.add;split
 ·rename_i e;rw[e]at h;exact h
 ·simpa using h
theorem dC{ops:Array Oper}{o:Oper}{a:Act}{w:World}{K:Act->World->Prop}{Q:Exit->Act->World->Prop}{E:Prop}{v:Value}{l:List (Int×Int)}
  (hg:o.guard=none)(s x:Operand)(hop:o.op=Op.call {callee:=Callee.builtin Builtin.append,args:= #[s,x],argTypes:= #[355,355]})
  (base:Nat)(hs:a.eval s=v)(hown:Own w base 325 2 JU v l)(y:Int×Int)(q c:Nat)(hx:a.eval x=.slice (some ⟨q,0,none⟩) 1 c)(hc:∀ j u,(JU y)[j]?=some u->w.cell? ((⟨q,0,none⟩:Addr).add j)=some u)(hn:l.length<=1000000000)(hbase:base<=w.heap.size)
  (hK:∀ v' w',Own w' base 325 2 JU v' (l++[y])->Below base w w'->But (fun k=>v.ownBlock=some k) w w'->K (a.put o.dst v') w'):
  if Region.wanted o (yielded ops a.tmps)=true then Oper.wp prog o a w K Q else E:=
 jn hg s x 355 hop underlying355 Sets.info rfl (by omega) (by omega) hs hown y _ c hx rfl hc (by simp[JU,Value.oneCell']) hn hbase (fun v' w' k1 k2 _=>hK v' w' k1 ((Below.refl base w).grown k2 hbase (fun k hk=>(hown.row.lt k hk).1)) (But.of_grown k2 fun _ h=>h))
theorem Xw(g:Int)(wb h:Nat)(S:HS)(A:Option Addr)(n k B:Nat)(L:List Ca)(w:World)(c13:w.cell? ⟨wb,13,none⟩=some (.pointer (some ⟨h,0,none⟩)))(c14:w.cell? ⟨wb,14,none⟩=some (.slice A n k))(H:Hl w h S)(hc:Cas w B g A n L)(hB:B<=w.heap.size)(hn:n<=1000):
  Calls prog 222 #[.pointer (some ⟨wb,0,none⟩)] w fun e w'=>∃ v l,e=.returned v/\Own w' w.heap.size 325 2 JU v l/\l.length=n/\fj w w':=by
 have hwb:=World.block_lt_of_cell? w _ c13;simp only at hwb;have HC:=ze hc;have HH:=ze H;clear hc H;have C13:=ze c13;go_enter func222,ntmps222;go_wp2_with fail;clear c13 c14
 go_loopw [3,11] (fun v i wr=>∃(j:Nat)(l:List (Int×Int)),j<=n/\i=.int .i64 j/\l.length=j/\Own wr w.heap.size 325 2 JU v l/\fj w wr) (fun _ i _=>n-(intOf i).toNat)
 case atStart=>exact⟨0,[],Nat.zero_le _,rfl,rfl,Own.nil _ _ _ _ _,fh⟩
 case round=>
  obtain⟨j,l,hj,rfl,hl,hown,hb⟩:=hrel;have HO:=ze hown;have HB:=ze hb;have HLL:=ze hl;clear hown hl;have hz:=hb.size;have hwr:wb<wr.heap.size:=by omega
  by_cases hlt:j<n
  ·obtain⟨b,off,x,rfl,hbb,hx,hok,hri,c0,c1,c2,c3,c4,c5⟩:=((HC.o.below (HB.o.mono hB))).at_ hlt;have i0:(0:Int)<=(j:Int):=by omega
   have i1:(j:Int)<(n:Int):=by omega
   have hb1:b<wr.heap.size:=by omega
   have hn1:=hok.n1;have HRI:=ze hri;clear hx hok hri hb;go_upto_region 5 with(fail);have hq0:=ze (show fj wr (wr.alloc (.cells (x.c.cells x.A x.n x.k) 265))from fh.alloc fi _);refine Yq (w:=wr) (fun V=>Bx V wr.heap.size (x.c.ls x.A x.n x.k)/\wr.heap.size<V.heap.size/\V.cell? ⟨wb,13,none⟩=some (.pointer (some ⟨h,0,none⟩))) ⟨Bx.new wr _ _,by simp,zf (HB.o.trans (hq0.o.mono hz)) C13.o⟩ hq0.o ?_;rintro V ⟨hbx,hzV,d13⟩ hbV;have HBV:=ze hbV;have HBX:=ze hbx;have HBW:=ze (HB.o.trans (hbV.mono hz));generalize hqq:wr.heap.size=q at HBX hzV⊢;have hqwb:wb<V.heap.size:=by omega
   have HHV:=ze (fun W(hb:fj V W)=>HH.o.below (HBW.o.trans (hb.mono HBW.o.size)));have HRD:=ze (fun W(hb:fj V W)=>vM x.c x.A x.n x.k B x.l W (HRI.o.below ((HBV.o.trans (hb.mono HBV.o.size)).mono (by omega))) (by have:=hb.size;have:=HBV.o.size;omega) (by omega));have HLD:=ze (fun d W(hb:fj V W)=>qv h S j d W (HHV.o W hb));obtain⟨⟨e0,e1,e2,e3,e4,e5⟩,-⟩:=HBX.o.o6;have MK:=ze (fun W(hz:Zb V W wb q)=>(show W.cell? ⟨wb,13,none⟩=some (.pointer (some ⟨h,0,none⟩))/\x.c.K x.A x.n x.k W q from
    ⟨(World.cell?_of_block (a:=⟨wb,13,none⟩) hz.1).trans d13,(World.cell?_of_block (a:=⟨q,0,none⟩) hz.2.1).trans e0,(World.cell?_of_block (a:=⟨q,1,none⟩) hz.2.1).trans e1,(World.cell?_of_block (a:=⟨q,2,none⟩) hz.2.1).trans e2,(World.cell?_of_block (a:=⟨q,3,none⟩) hz.2.1).trans e3,(World.cell?_of_block (a:=⟨q,4,none⟩) hz.2.1).trans e4,(World.cell?_of_block (a:=⟨q,5,none⟩) hz.2.1).trans e5⟩))
   have HOX:=ze (fun W(hb:fj V W)=>(HO.o.below (HBV.o.trans (hb.mono HBV.o.size))));have HLN:=ze (show l.length<=1000000000 from by have:=HLL.o;omega);have HBc:=ze (show fj V V.drew from fh.drew);have HZ:=ze (Zb.of HBc.o hqwb hzV);have HLT:=ze hqwb;have HLX:=ze hzV;have HOB:=ze (HO.o.row.lt);rw[hqq]at HOB;clear c0 c1 c2 c3 c4 c5 hbx hbV;have hzc:=HBc.o.size;have hzw:=HBW.o.size
   go_region_held3 (fun W=>W.cell? ⟨wb,13,none⟩=some (.pointer (some ⟨h,0,none⟩))/\x.c.K x.A x.n x.k W q)
   (first|(with_reducible exact MK.o _ HZ.o)|(with_reducible exact MK.o _ (Zb.al HZ.o HLT.o HLX.o _)))
   (first
   |(refine dC rfl _ _ rfl w.heap.size rfl (HOX.o _ (by first|exact HBc.o|(go_grown;exact HBc.o))) _ _ 1 rfl (bv _ _ _ _) HLN.o (by first|omega|(simp;omega)) ?_;intro v' wY hown' hgY hBY;have HZp:=ze ((show Zb V _ wb q from Zb.of (by first|exact HBc.o|(go_grown;exact HBc.o)) HLT.o HLX.o).but HLT.o HLX.o hBY (fun e=>(by have:=(HOB.o _ e).1;omega)) (fun e=>(by have:=(HOB.o _ e).2;omega)));clear HZ hBY;have HZ:=ze HZp.o;clear HZp;have HOW:=ze hown';have HBY:=ze (HBW.o.trans (((show fj V _ from by first|exact HBc.o|(go_grown;exact HBc.o)).mono HBW.o.size).trans hgY));clear hown' hgY)
   |(go_at_call 251;go_split_ands;(with_reducible refine(HRD.o _ (show fj V _ from by first|exact HBc.o|(go_grown;exact HBc.o))).mono ?_);rintro r wX ⟨⟨u0,u1,rfl⟩,hbX⟩;have HBn:=ze ((show fj V _ from by first|exact HBc.o|(go_grown;exact HBc.o)).trans (hbX.mono (by first|omega|(simp;omega))));clear HBc;have HBc:=ze HBn.o;clear HBn HZ;have HZ:=ze (Zb.of HBc.o HLT.o HLX.o);clear hzc;have hzc:=HBc.o.size;clear hbX)
   |(go_at_call 192;go_split_ands;(with_reducible refine(HLD.o (-1) _ (show fj V _ from by first|exact HBc.o|(go_grown;exact HBc.o))).mono ?_);rintro r wX ⟨⟨m0,m1,rfl⟩,hbX⟩;have HBn:=ze ((show fj V _ from by first|exact HBc.o|(go_grown;exact HBc.o)).trans (hbX.mono (by first|omega|(simp;omega))));clear HBc;have HBc:=ze HBn.o;clear HBn HZ;have HZ:=ze (Zb.of HBc.o HLT.o HLX.o);clear hzc;have hzc:=HBc.o.size;clear hbX)
   |(go_at_call 192;go_split_ands;(with_reducible refine(HLD.o 1 _ (show fj V _ from by first|exact HBc.o|(go_grown;exact HBc.o))).mono ?_);rintro r wX ⟨⟨p0,p1,rfl⟩,hbX⟩;have HBn:=ze ((show fj V _ from by first|exact HBc.o|(go_grown;exact HBc.o)).trans (hbX.mono (by first|omega|(simp;omega))));clear HBc;have HBc:=ze HBn.o;clear HBn HZ;have HZ:=ze (Zb.of HBc.o HLT.o HLX.o);clear hzc;have hzc:=HBc.o.size;clear hbX)
   |(go_at_call 250;go_split_ands;(with_reducible refine(VB u0 u1 o0 o1 _).mono ?_);rintro r wX ⟨⟨r0,r1,rfl⟩,hbX⟩;have HBn:=ze ((show fj V _ from by first|exact HBc.o|(go_grown;exact HBc.o)).trans (hbX.mono (by first|omega|(simp;omega))));clear HBc;have HBc:=ze HBn.o;clear HBn HZ;have HZ:=ze (Zb.of HBc.o HLT.o HLX.o);clear hzc;have hzc:=HBc.o.size;clear hbX)
   |(go_at_call 250;go_split_ands;(with_reducible refine(VB p0 p1 m0 m1 _).mono ?_);rintro r wX ⟨⟨o0,o1,rfl⟩,hbX⟩;have HBn:=ze ((show fj V _ from by first|exact HBc.o|(go_grown;exact HBc.o)).trans (hbX.mono (by first|omega|(simp;omega))));clear HBc;have HBc:=ze HBn.o;clear HBn HZ;have HZ:=ze (Zb.of HBc.o HLT.o HLX.o);clear hzc;have hzc:=HBc.o.size;clear hbX))
   all_goals(
    go_wp2_with fail;refine⟨⟨j+1,_,by omega,by go_num,by rw[List.length_append,HLL.o];rfl,HOW.o,HBY.o⟩,?_⟩;simp[intOf];omega)
  ·obtain rfl:j=n:=by omega
   obtain⟨A2,c2,rfl,-,hrd⟩:=HO.o.shape;go_wp2_with fail;go_ret;exact⟨_,l,rfl,HO.o,HLL.o,HB.o⟩
end
end Go.Proofs.YtdeogmbfgkepeaaGreatDoor
