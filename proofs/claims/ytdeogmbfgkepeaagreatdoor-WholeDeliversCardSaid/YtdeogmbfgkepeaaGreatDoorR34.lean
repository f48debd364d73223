/- Contracts for WholeDelivers. -/
import Derived.LoopIn
import Derived.LoopNIn
import Derived.OwnWalkIn
import Derived.RangeFuncBound
import Derived.RangeFuncCalls
import Derived.RangeFuncFrom
import Derived.RangeFuncLeaves
import Derived.RangeFuncNested
import Derived.Shelf.Abstract
import Derived.Shelf.RegionOpen
import Derived.TacticsInMore
import Derived.Test.YtdeogmbfgkepeaaGreatDoorR20
import Derived.Test.YtdeogmbfgkepeaaGreatDoorR33
set_option linter.unusedVariables false
set_option linter.unusedSimpArgs false
set_option maxRecDepth 100000
set_option maxHeartbeats 64000000
namespace Go.Proofs.YtdeogmbfgkepeaaGreatDoor
open Go.Proofs.Tryz
open Go.Value renaming int->O
open Go.IntKind renaming i64->J,u64->U
section
open Go.RowKit HB Go.Shelf
attribute [local go_sem] Oper.semAt_some
theorem NextB.two{n:Int}{e:Ending}(h:NextB n e):∃(m:Int)(ok:Bool),e=.returned (.tuple #[O J m,.bool ok])/\(ok=true->n<=m/\0<=m/\m<=127):=by
 rcases h with⟨m,rfl,h⟩|rfl
 ·exact⟨m,true,rfl,fun _=>h⟩
 ·exact⟨0,false,rfl,fun h=>by cases h⟩
theorem GF(a b:Int)(w:l6):Calls prog 288 #[zy a b] w fun e w'=>e=.returned (.func (.func 294) #[] #[.pointer (some ⟨w.heap.size,0,none⟩)])/\w'=w.alloc (.cells #[O U a,O U b] 325):=by
 go_in
 go_wp2_with fail;go_ret;exact⟨rfl,rfl⟩
theorem Tab.but{X:Nat->Prop}{w w':l6}(h:Tab w)(hb:But X w w')(hD:¬ X 5):Tab w':=fun j hj=>hb.cell (h j hj) hD
def eW(q:Nat)(x y:Int)(W:l6):Prop:=(∃k:Int,W.cell? ⟨q+1+1+1,0,none⟩=some (O J k)/\W.frozen? ⟨q+1+1+1,0,none⟩=false)/\W.cell? ⟨q+1,0,none⟩=some (O J x)/\W.cell? ⟨q+1+1,0,none⟩=some (O J y)
theorem br{Q:l6->Prop}{W:l6}(S:l6->Prop)(hS:S W)(h:∀ W':l6,S W'->Q W'):Q W:=h W hS
theorem xp{β:Type}{B:Nat}{Jq:β->l6->Prop}(h:AbidesFrom B Jq){s:β}{W W':l6}(hs:Jq s W)(hb:Below W.heap.size W W'):Jq s W':=
 h s W W' none hs ⟨hb.os,hb.tape,hb.output,hb.size,fun k hk _=>hb.block k hk⟩ (fun r e=>by cases e)
theorem bt(n:Nat)(hn:1<=n)(l Bn B:Nat)(X:Nat->Prop)(a b:Int)(Jq Jx:l8->l6->Prop)(hJ:AbidesFrom B Jq)
  (hY:∀ pre x W,Jq pre W->pre.length<128->YieldAt Fence.wide (n-1) prog l #[O J x] W fun e W'=>
   (e=.returned (.bool true)/\Jq (pre++[x]) W'/\But X W W')\/(e=.returned (.bool false)/\Jx (pre++[x]) W'))
  (W:l6)(c0:W.cell? ⟨Bn,0,none⟩=some (O U a))(c1:W.cell? ⟨Bn,1,none⟩=some (O U b))(hBn:¬ X Bn)(ht:Tab W)(hD:¬ X 5)(hDl:5<W.heap.size)(h0:Jq [] W):
  CallsIn Fence.wide n prog 294 #[.func (.yield l) #[] #[],.pointer (some ⟨Bn,0,none⟩)] W fun e W'=>(∃v,e=.returned v)/\
   ((∃ys:l8,True/\Jq ys W')\/(∃pre:l8,True/\Jx pre W')):=by
 have HN:=ze (fun V(hb:But X W V)(k:Int)(hk:0<=k)=>(callsIn_wide (n:=n-1)).2 (Xv a b k V (ht.but hb hD) (kK hDl hb.size) hk));have HJ:=ze hJ;have H0:=ze h0;have HY:=ze hY;clear ht hJ h0 hY;refine callsIn_of_wp func294 rfl trivial ?_ rfl;simp only[ntmps294,Wf,Zn,KN,Nat.reduceAdd,Nat.reduceSub,Array.replicate_succ,Array.replicate_zero,List.push_toArray,List.append_toArray,iA,List.cons_append]
 gi_wp2_with (refine⟨trivial,?_⟩;gi_at_call 285;refine(HN.o W (But.refl _ _) 0 (by omega)).mono ?_;rintro e w1 ⟨h1,hc⟩;obtain⟨m,ok,rfl,hm⟩:=h1.two;have HM:=ze hm;have h6:=ze hc;clear h1 hm hc)
 have hf:=ze (xp HJ.o H0.o h6.o)
 gi_loopw [3,4] (fun p q wr=>∃(pre:l8)(m:Int)(ok:Bool),p=O J m/\q=.bool ok/\(ok=true->(pre.length:Int)<=m/\0<=m/\m<=127)/\Jq pre wr/\But X W wr)
  (fun p q _=>match q with|.bool true=>(200-intOf p).toNat|_=>0)
 case atStart=>
  exact⟨[],m,ok,rfl,rfl,fun h=>by have:=HM.o h;simp;omega,hf.o,But.of_below h6.o⟩
 case round=>
  obtain⟨pre,m,ok,rfl,rfl,hm,ha,h5⟩:=hrel;have hj:=ze hm;have h7:=ze ha;have hl:=ze h5;clear hm ha;cases ok with
  |false=>
   gi_wp2
   go_end0;exact⟨⟨_,rfl⟩,.inl ⟨pre,trivial,h7.o⟩⟩
  |true=>
   obtain⟨m0,m1,m2⟩:=hj.o rfl;obtain⟨fn,tmps,assign,body,hy,hR⟩:=HY.o pre m wr h7.o (by omega)
   gi_wp2
   refine hR.mono ?_;rintro e W3 (⟨rfl,h9,hd⟩|⟨rfl,h3⟩)
   ·have hg:=ze h9;have h2:=ze (h5.trans hd (fun _ _ h=>h));have d0:=h2.o.cell c0 hBn;have d1:=h2.o.cell c1 hBn;clear h9 hd h5
    gi_wp2_with (refine⟨trivial,?_⟩;gi_at_call 285;refine(HN.o W3 h2.o (m+1) (by omega)).mono ?_;rintro e w4 ⟨h1,h4⟩;obtain⟨m',ok',rfl,hm'⟩:=h1.two;have h8:=ze hm';have he:=ze h4;have hi:=ze (xp HJ.o hg.o h4);clear h1 hm' h4)
    go_roundw
    case rel=>exact⟨pre++[m],m',ok',rfl,rfl,fun h=>by have:=h8.o h;rw[kC,Jp];omega,hi.o,h2.o.then_ he.o⟩
    case measure=>
     cases ok' with
     |false=>simp[intOf];omega
     |true=>have:=h8.o rfl;simp[intOf];omega
   ·gi_wp2
    refine bodyPost_ret (results_none rfl _ _ _) rfl ?_;exact⟨⟨_,rfl⟩,.inr ⟨pre++[m],trivial,h3⟩⟩
theorem Uz(n:Nat)(hn:1<=n)(Bn:Nat)(X:Nat->Prop)(a b:Int)(w:l6)(c0:w.cell? ⟨Bn,0,none⟩=some (O U a))(c1:w.cell? ⟨Bn,1,none⟩=some (O U b))(hBn:¬ X Bn)(ht:Tab w)(hD:¬ X 5)(hDl:5<w.heap.size):
  SeqStopsK Fence.wide n prog 294 #[.pointer (some ⟨Bn,0,none⟩)] (fun x:Int=> #[O J x]) (But X) (fun _=>True) (fun _=>True) 128 w:=fun l Jq Jx W hW hJ _ hY h0=>
 bt n hn l Bn W.heap.size X a b Jq Jx hJ hY W (zf hW c0) (zf hW c1) hBn (ht.below hW hDl) hD (kK hDl hW.size) h0
theorem But.of_belowD{D nb:Nat}{W W':l6}(h:Below D W W')(hs:W.heap.size<=W'.heap.size):But (fun k=>k=nb\/D<=k) W W':=
 ⟨h.os,h.tape,h.output,hs,fun k hk hx=>h.block k (by omega)⟩
theorem Qv(a b x y:Int)(w:l6)(ht:Tab w)(hD:5<w.heap.size):
  Calls prog 277 #[zy a b,O J x,O J y] w fun e W'=>RI e/\Below w.heap.size w W':=by
 refine(callsIn_wide (n:=5)).1 ?_;have HT:=ze ht;clear ht;refine callsIn_of_wp_marks func277 rfl trivial ?_ rfl;simp only[ntmps277,Wf,Zn,KN,Nat.reduceAdd,Nat.reduceSub,Array.replicate_succ,Array.replicate_zero,List.push_toArray,List.append_toArray,iA,List.cons_append]
 gi_wp2_with (refine⟨trivial,?_⟩;gi_at_call 288;refine(callsIn_wide.2 (GF a b _)).mono ?_;rintro e w1 ⟨rfl,rfl⟩)
 have h5:Bs w (((((w.alloc (.cells #[O U a,O U b] 325)).alloc (.cells #[O J x] 3)).alloc (.cells #[O J y] 3)).alloc (.cells #[O J 0] 3)).alloc (.cells #[O U a,O U b] 325)) [(w.heap.size+1+1+1+1,[O U a,O U b]),(w.heap.size+1+1+1,[O J 0]),(w.heap.size+1+1,[O J y]),(w.heap.size+1,[O J x]),(w.heap.size,[O U a,O U b])]:=
  (Bs.four w [O U a,O U b] [O J x] [O J y] [O J 0] _ _ _ _).new (by simp) [O U a,O U b] _
 refine br (S:=fun W0=>Bs w W0 [(w.heap.size+1+1+1+1,[O U a,O U b]),(w.heap.size+1+1+1,[O J 0]),(w.heap.size+1+1,[O J y]),(w.heap.size+1,[O J x]),(w.heap.size,[O U a,O U b])]/\W0.heap.size=w.heap.size+1+1+1+1+1) ⟨h5,by simp⟩ ?_;rintro W0 ⟨h0,h8⟩;clear h5;have h7:Below w.heap.size w W0:=h0.b;obtain⟨⟨s0,s1⟩,-⟩:=(h0.cell (q:=w.heap.size+1+1+1+1) (l:=[O U a,O U b]) (by simp)).o2;have n0:=(h0.cell (q:=w.heap.size+1+1+1) (l:=[O J 0]) (by simp)) 0 _ rfl;have y0:=((h0.cell (q:=w.heap.size+1+1) (l:=[O J y]) (by simp)) 0 _ rfl).1;have x0:=((h0.cell (q:=w.heap.size+1) (l:=[O J x]) (by simp)) 0 _ rfl).1;clear h0;generalize hq:w.heap.size=q at*;have h6:=ze hq;have ha:W0.heap.size<=q+1+1+1+1+1:=by omega
 have hd:q+1+1+1+1+1<=W0.heap.size:=by omega
 have he:w.heap.size<=q:=by omega
 have hi:q<=w.heap.size:=by omega
 clear h8 hq;refine wpIn_rangeFunc_ownF rfl (by omega) (gf:=294) (lb:= #[.pointer (some ⟨q+1+1+1+1,0,none⟩)]) rfl trivial (enters_of func294 (by kernel_rfl) rfl)
  (Kp:=But (fun k=>k=q+1+1+1\/W0.heap.size<=k))
  (Uz 4 (by omega) (q+1+1+1+1) (fun k=>k=q+1+1+1\/W0.heap.size<=k) a b W0 s0 s1 (by omega) (HT.o.below (h6.o▸h7) (by omega)) (by omega) (by omega)) (fun h h'=>h.trans h' (fun _ _ h=>h))
  (fun W l o o' hl ho hc hw=>But.of_belowD (belowK_b (w:=W0) fi W l o o' hl ho hc hw) (by simp[World.putObj])) fh (fun _=>rfl)
  (fun pre W=>eW q x y W/\Below q w W)
  (fun _ _ _=>False)
  (OwnFrom.and (Own.from (fun s A B row hs hg hr=>by
   obtain⟨⟨k,h1,h2⟩,h3,h4⟩:=hs;exact⟨⟨k,cell_kept h1 hg hr,(frozen_kept h1 hg hr).trans h2⟩,cell_kept h3 hg hr,cell_kept h4 hg hr⟩) _) (ownFrom_below (by omega) (by omega)))
  (fun _ _ _ _ _ hs _ _=>hs)
  ⟨⟨⟨0,n0.1,n0.2⟩,x0,y0⟩,h7⟩
  (fun z=>{tmps:= #[zy a b,O J x,O J y,.pointer (some ⟨q,0,none⟩),.pointer (some ⟨q+1,0,none⟩),.pointer (some ⟨q+1+1,0,none⟩),O J 0,.pointer (some ⟨q+1+1+1,0,none⟩),O J z,.agg #[O U a,O U b],.func (.func 294) #[] #[.pointer (some ⟨q+1+1+1+1,0,none⟩)],O J z,undef,undef,undef,undef,undef,undef,undef,undef,undef,undef,undef,undef,undef,undef,undef],defers:=[]}) ?assign ?body ?done ?stop
 case assign=>
  intro l z W K hK
  gi_wp2
  exact hK
 case body=>
  rintro l pre z W ⟨⟨⟨k,hk,hf⟩,hx,hy⟩,hB⟩ _;have h9:=JG W _ hk
  gi_wp2
  all_goals first
   |exact⟨KeepsOthers.refl _,But.refl _ _,⟨⟨k,hk,hf⟩,hx,hy⟩,hB⟩
   |exact⟨KeepsOthers.setCell _ _ _,(But.refl (fun k=>k=q+1+1+1\/W0.heap.size<=k) W).at1 (.inl rfl) 0 _,⟨⟨_,World.cell?_setCell_same' _ _ _ (by rw[hk];rfl),by rw[yD];exact hf⟩,(Zm W _ _ _ (by simp)).trans hx,(Zm W _ _ _ (by simp)).trans hy⟩,hB.setCell (p:=⟨q+1+1+1,0,none⟩) (by simp;omega) _⟩
 case done=>
  rintro D ys W hD-⟨⟨⟨k,hk,hf⟩,hx,hy⟩,hB⟩ hK
  gi_wp2
  refine⟨by simp,.inl ⟨_,_,rfl,run_takeDeferred hK,?_⟩⟩;exact⟨_,results_tmp rfl _ _ _,⟨k,rfl⟩,(h6.o▸hB.trans (belowK_b (n₀:=q) (w:=w) (by omega) W D _ _ (by omega) hK rfl rfl):Below w.heap.size w _)⟩
 case stop=>
  rintro D c pre W _ _ h _;exact h.elim
end
end Go.Proofs.YtdeogmbfgkepeaaGreatDoor
