/- Contracts for WholeDelivers. -/
import Derived.Test.YtdeogmbfgkepeaaGreatDoorR20
import Derived.Test.YtdeogmbfgkepeaaGreatDoorR22
import Derived.Test.YtdeogmbfgkepeaaGreatDoorR32
set_option linter.unusedVariables false
set_option linter.unusedSimpArgs false
set_option maxRecDepth 100000
set_option maxHeartbeats 64000000
namespace Go.Proofs.YtdeogmbfgkepeaaGreatDoor
open Go.Proofs.Tryz
section
open Go.RowKit HB Go.Maps CalP
theorem Sets.info:(prog.info? 325).map (fun i=>(i.zero,i.size,i.bytes))=some (some (.agg #[.int .u64 0,.int .u64 0]),2,16):=by kernel_rfl
theorem ii{f:_}{args:Array Value}{w:l6}{a b:Int}(h:Calls prog f args w (fk (zy a b) w)):Calls prog f args w fun e w'=>QU e/\fj w w':=h.mono fun e w' h=>⟨⟨a,b,h.1⟩,h.2⟩
theorem ir{f:_}{args:Array Value}{w:l6}{Q:Int->Int->Prop}(h:Calls prog f args w fun e w'=>(∃x y,e=.returned (zy x y)/\Q x y)/\fj w w'):Calls prog f args w fun e w'=>QU e/\fj w w':=h.mono fun e w' h=>⟨h.1.imp fun x=>Exists.imp fun y h=>h.1,h.2⟩
theorem bv(w:l6)(a b:Int)(ty:TypeId):∀ j u,(JU (a,b))[j]?=some u->(w.alloc (.cells #[.int .u64 a,.int .u64 b] ty)).cell? ((⟨w.heap.size,0,none⟩:Addr).add j)=some u:=fun j u hu=>by
 have h:=(Bx.new w [.int .u64 a,.int .u64 b] ty j u hu).1;unfold Addr.add;split
 ·rename_i e;rw[e]at h;exact h
 ·simpa using h
theorem dC{ops:Array Oper}{o:Oper}{a:Act}{w:l6}{K:Act->l6->Prop}{Q:Exit->Act->l6->Prop}{E:Prop}{v:Value}{l:List (Int×Int)}
  (hg:o.guard=none)(s x:Operand)(hop:o.op=Op.call {callee:=Callee.builtin Builtin.append,args:= #[s,x],argTypes:= #[355,355]})
  (base:Nat)(hs:a.eval s=v)(hown:Own w base 325 2 JU v l)(y:Int×Int)(q c:Nat)(hx:a.eval x=.slice (some ⟨q,0,none⟩) 1 c)(hc:∀ j u,(JU y)[j]?=some u->w.cell? ((⟨q,0,none⟩:Addr).add j)=some u)(hn:l.length<=1000000000)(hbase:base<=w.heap.size)
  (hK:∀ v' w',Own w' base 325 2 JU v' (l++[y])->Below base w w'->But (fun k=>v.ownBlock=some k) w w'->K (a.put o.dst v') w'):
  if Region.wanted o (yielded ops a.tmps)=true then Oper.wp prog o a w K Q else E:=
 jn hg s x 355 hop underlying355 Sets.info rfl (by omega) (by omega) hs hown y _ c hx rfl hc (by simp[JU,Value.oneCell']) hn hbase (fun v' w' k1 k2 _=>hK v' w' k1 ((Below.refl base w).grown k2 hbase (fun k hk=>(hown.row.lt k hk).1)) (But.of_grown k2 fun _ h=>h))
theorem Xw(g:Int)(wb h:Nat)(S:HS)(A:iX)(n k B:Nat)(L:List Ca)(w:l6)(c13:w.cell? ⟨wb,13,none⟩=some (.pointer (some ⟨h,0,none⟩)))(c14:w.cell? ⟨wb,14,none⟩=some (.slice A n k))(H:Hl w h S)(hc:Cas w B g A n L)(hB:B<=w.heap.size)(hn:n<=1000):
  Calls prog 222 #[.pointer (some ⟨wb,0,none⟩)] w fun e w'=>∃ v l,e=.returned v/\Own w' w.heap.size 325 2 JU v l/\l.length=n/\fj w w':=by
 have hI:=JG w _ c13;simp only at hI;have HC:=ze hc;have HH:=ze H;clear hc H;have C13:=ze c13
 go_in
 go_wp2_with fail;clear c13 c14
 go_loopw [3,11] (fun v i wr=>∃(j:Nat)(l:List (Int×Int)),j<=n/\i=.int .i64 j/\l.length=j/\Own wr w.heap.size 325 2 JU v l/\fj w wr) (fun _ i _=>n-(intOf i).toNat)
 case atStart=>exact⟨0,[],vf _,rfl,rfl,Own.nil _ _ _ _ _,fh⟩
 case round=>
  obtain⟨j,l,hj,rfl,hl,h9,hb⟩:=hrel;have HO:=ze h9;have HB:=ze hb;have he:=ze hl;clear h9 hl;have hz:=hb.size;have hO:wb<wr.heap.size:=by omega
  by_cases hF:j<n
  ·obtain⟨b,off,x,rfl,hL,hx,hs,hu,c0,c1,c2,c3,c4,c5⟩:=((HC.o.below (HB.o.mono hB))).at_ hF;have i0:(0:Int)<=(j:Int):=by omega
   have i1:(j:Int)<(n:Int):=by omega
   have hJ:b<wr.heap.size:=by omega
   have hM:=hs.n1;have hE:=ze hu;clear hx hs hu hb;go_upto_region 5 with(fail);have ht:=ze (show fj wr (wr.alloc (.cells (x.c.cells x.A x.n x.k) 265))from fh.alloc fi _);refine Yq (w:=wr) (fun V=>Bx V wr.heap.size (x.c.ls x.A x.n x.k)/\wr.heap.size<V.heap.size/\V.cell? ⟨wb,13,none⟩=some (.pointer (some ⟨h,0,none⟩))) ⟨Bx.new wr _ _,by simp,zf (HB.o.trans (ht.o.mono hz)) C13.o⟩ ht.o ?_;rintro V ⟨hq,hi,d13⟩ hg;have h7:=ze hg;have hk:=ze hq;have h8:=ze (HB.o.trans (hg.mono hz));generalize hG:wr.heap.size=q at hk hi⊢;have ha:wb<V.heap.size:=by omega
   have hw:=ze (fun W(hb:fj V W)=>HH.o.below (h8.o.trans (hb.mono h8.o.size)));have hD:=ze (fun W(hb:fj V W)=>ii (vM x.c x.A x.n x.k B x.l W (hE.o.below ((h7.o.trans (hb.mono h7.o.size)).mono (by omega))) (by have:=hb.size;have:=h7.o.size;omega) (by omega)));have hm:=ze (fun d(hd:d=1\/d=-1) W(hb:fj V W)=>ir (qv h S j d W (hw.o W hb) hd (zQ (by omega) (by omega))));obtain⟨⟨e0,e1,e2,e3,e4,e5⟩,-⟩:=hk.o.o6;have MK:=ze (fun W(hz:Zb V W wb q)=>(show W.cell? ⟨wb,13,none⟩=some (.pointer (some ⟨h,0,none⟩))/\x.c.K x.A x.n x.k W q from
    ⟨(vg (a:=⟨wb,13,none⟩) hz.1).trans d13,(vg (a:=⟨q,0,none⟩) hz.2.1).trans e0,(vg (a:=⟨q,1,none⟩) hz.2.1).trans e1,(vg (a:=⟨q,2,none⟩) hz.2.1).trans e2,(vg (a:=⟨q,3,none⟩) hz.2.1).trans e3,(vg (a:=⟨q,4,none⟩) hz.2.1).trans e4,(vg (a:=⟨q,5,none⟩) hz.2.1).trans e5⟩))
   have hC:=ze (fun W(hb:fj V W)=>(HO.o.below (h7.o.trans (hb.mono h7.o.size))));have hy:=ze (show l.length<=1000000000 from by have:=he.o;omega);have h0:=ze (show fj V V.drew from fh.drew);have HZ:=ze (Zb.of h0.o ha hi);have h4:=ze ha;have h5:=ze hi;have hf:=ze (HO.o.row.lt);rw[hG]at hf;clear c0 c1 c2 c3 c4 c5 hq hg;have h3:=h0.o.size;have hP:=h8.o.size
   go_region_held3 (fun W=>W.cell? ⟨wb,13,none⟩=some (.pointer (some ⟨h,0,none⟩))/\x.c.K x.A x.n x.k W q)
   (first|(with_reducible exact MK.o _ HZ.o)|(with_reducible exact MK.o _ (Zb.al HZ.o h4.o h5.o _)))
   (first
   |(refine dC rfl _ _ rfl w.heap.size rfl (hC.o _ (by first|exact h0.o|(go_grown;exact h0.o))) _ _ 1 rfl (bv _ _ _ _) hy.o (by first|omega|(simp;omega)) ?_;intro v' wY h6 hr hp;have ho:=ze ((show Zb V _ wb q from Zb.of (by first|exact h0.o|(go_grown;exact h0.o)) h4.o h5.o).but h4.o h5.o hp (fun e=>(by have:=(hf.o _ e).1;omega)) (fun e=>(by have:=(hf.o _ e).2;omega)));clear HZ hp;have HZ:=ze ho.o;clear ho;have hA:=ze h6;have hv:=ze (h8.o.trans (((show fj V _ from by first|exact h0.o|(go_grown;exact h0.o)).mono h8.o.size).trans hr));clear h6 hr)
   |(go_at_call 251;go_split_ands;(with_reducible refine(hD.o _ (show fj V _ from by first|exact h0.o|(go_grown;exact h0.o))).mono ?_);rintro r wX ⟨⟨u0,u1,rfl⟩,h2⟩;have h1:=ze ((show fj V _ from by first|exact h0.o|(go_grown;exact h0.o)).trans (h2.mono (by first|omega|(simp;omega))));clear h0;have h0:=ze h1.o;clear h1 HZ;have HZ:=ze (Zb.of h0.o h4.o h5.o);clear h3;have h3:=h0.o.size;clear h2)
   |(go_at_call 192;go_split_ands;(with_reducible refine(hm.o (-1) (.inr rfl) _ (show fj V _ from by first|exact h0.o|(go_grown;exact h0.o))).mono ?_);rintro r wX ⟨⟨m0,m1,rfl⟩,h2⟩;have h1:=ze ((show fj V _ from by first|exact h0.o|(go_grown;exact h0.o)).trans (h2.mono (by first|omega|(simp;omega))));clear h0;have h0:=ze h1.o;clear h1 HZ;have HZ:=ze (Zb.of h0.o h4.o h5.o);clear h3;have h3:=h0.o.size;clear h2)
   |(go_at_call 192;go_split_ands;(with_reducible refine(hm.o 1 (.inl rfl) _ (show fj V _ from by first|exact h0.o|(go_grown;exact h0.o))).mono ?_);rintro r wX ⟨⟨p0,p1,rfl⟩,h2⟩;have h1:=ze ((show fj V _ from by first|exact h0.o|(go_grown;exact h0.o)).trans (h2.mono (by first|omega|(simp;omega))));clear h0;have h0:=ze h1.o;clear h1 HZ;have HZ:=ze (Zb.of h0.o h4.o h5.o);clear h3;have h3:=h0.o.size;clear h2)
   |(go_at_call 250;go_split_ands;(with_reducible refine(ii (VB u0 u1 o0 o1 _)).mono ?_);rintro r wX ⟨⟨r0,r1,rfl⟩,h2⟩;have h1:=ze ((show fj V _ from by first|exact h0.o|(go_grown;exact h0.o)).trans (h2.mono (by first|omega|(simp;omega))));clear h0;have h0:=ze h1.o;clear h1 HZ;have HZ:=ze (Zb.of h0.o h4.o h5.o);clear h3;have h3:=h0.o.size;clear h2)
   |(go_at_call 250;go_split_ands;(with_reducible refine(ii (VB p0 p1 m0 m1 _)).mono ?_);rintro r wX ⟨⟨o0,o1,rfl⟩,h2⟩;have h1:=ze ((show fj V _ from by first|exact h0.o|(go_grown;exact h0.o)).trans (h2.mono (by first|omega|(simp;omega))));clear h0;have h0:=ze h1.o;clear h1 HZ;have HZ:=ze (Zb.of h0.o h4.o h5.o);clear h3;have h3:=h0.o.size;clear h2))
   all_goals(
    go_wp2_with fail;refine⟨⟨j+1,_,by omega,by go_num,by rw[kC,he.o];rfl,hA.o,hv.o⟩,?_⟩;simp[intOf];omega)
  ·obtain rfl:j=n:=by omega
   obtain⟨A2,c2,rfl,-,hN⟩:=HO.o.shape;go_wp2_with fail;go_ret;exact⟨_,l,rfl,HO.o,he.o,HB.o⟩
end
end Go.Proofs.YtdeogmbfgkepeaaGreatDoor
