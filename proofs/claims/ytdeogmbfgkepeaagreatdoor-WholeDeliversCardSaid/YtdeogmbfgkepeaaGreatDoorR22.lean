/- Contracts for WholeDelivers. -/
import Derived.Deep.RegionLawGrows
import Derived.Deep.Upon
import Derived.Laws.IdiomCopy
import Derived.Test.YtdeogmbfgkepeaaGreatDoorR19
set_option linter.unusedVariables false
set_option linter.unusedSimpArgs false
set_option maxRecDepth 100000
set_option maxHeartbeats 64000000
namespace Go.Proofs.YtdeogmbfgkepeaaGreatDoor
open Go.Proofs.Tryz
open Go.Value renaming int->O
open Go.IntKind renaming i64->J
section
open Go.RowKit HB Go.Maps CalP
theorem Wt.info:(prog.info? 318).map (fun i=>(i.zero,i.size,i.bytes))=some (some (.agg #[O J 0,O J 0,O J 0,O J 0]),4,32):=by kernel_rfl
theorem But.setCells(X:Nat->Prop)(b:Nat)(hb:X b):∀(vs:iZ)(o:Nat)(w:l6),But X w (w.setCells b o vs)
 |[],o,w=>But.refl X w
 |v::r,o,w=>(((But.refl X w).set (a:=⟨b,o,none⟩) (.inl hb) v)).trans (But.setCells X b hb r (o+1) _) (fun _ _ h=>h)
theorem Yv(x:Wt):(ZY x).length=4:=rfl
theorem Wrow.room{w:l6}{b off n c:Nat}{l:List Wt}(h:Wrow w ⟨some ⟨b,off,none⟩,n,c⟩ l)(hc:n+1<=c)(y:Wt):Wrow (w.setCells b (off+n*4) (ZY y)) ⟨some ⟨b,off,none⟩,n+1,c⟩ (l++[y]):=by
 have h4:=h.len;simp only at h4;rcases h.at_ with h1|⟨b',off',hA,h0,h1,h2⟩
 ·cases h1.1
 ·injection hA with hA;injection hA with e1 e2 _;subst e1 e2;simp only at h2;refine⟨by simp[h4],by simp only;omega,.inr ⟨b,off,rfl,?_,fun j u hu=>?_,fun j hj=>?_⟩⟩
  ·exact kK h0 (But.setCells (fun _=>True) b trivial (ZY y) _ w).size
  ·rw[Vs]at hu;have h9:(l.flatMap ZY).length=n*4:=by rw[flat_length Yv,h4]
   by_cases hj:j<n*4
   ·rw[XV (by omega)]at hu;rw[World.cell?_setCells_out _ _ _ _ _ (fun _ _=>.inl (by simp only;omega))];exact h1 j u hu
   ·rw[XY (by omega),h9]at hu;have h7:j-n*4<(ZY y).length:=by
     have:=(qd.1 hu).1;simpa using this
    have h6:=World.cell?_setCells_in b (ZY y) (off+n*4) w (fun i hi=>(by
     have:=(h2 (n*4+i) (by simp at hi;omega)).1
     rwa [<-XS]at this)) (j-n*4) h7
    have ha:off+n*4+(j-n*4)=off+j:=by omega
    rw[ha]at h6;rw[h6];have h8:(ZY y)[j-n*4]?=some u:=by simpa using hu
    rw[kD h7]at h8;exact h8
  ·rw[World.frozen?_setCells];have h3:=h2 j hj;refine⟨?_,h3.2⟩;by_cases h6:n*4<=j/\j<n*4+4
   ·have h5:=World.cell?_setCells_in b (ZY y) (off+n*4) w (fun i hi=>(by
     have:=(h2 (n*4+i) (by simp at hi;omega)).1
     rwa [<-XS]at this)) (j-n*4) (by simp;omega)
    have ha:off+n*4+(j-n*4)=off+j:=by omega
    rw[ha]at h5;rw[h5];rfl
   ·rw[World.cell?_setCells_out _ _ _ _ _ (fun _ _=>by simp;omega)];exact h3.1
theorem Wrow.of_owns{w:l6}{base n:Nat}{e:TypeId}{v:Value}{l:List Wt}(h:w.ownsRow base e 4 v n (l.flatMap ZY))(hl:l.length=n)(hn:0<n):∃ g cap,v=.slice (some ⟨g,0,none⟩) n cap/\base<=g/\Wrow w ⟨some ⟨g,0,none⟩,n,cap⟩ l:=by
 obtain⟨hx,h⟩:=h;rcases h with⟨-,h0⟩|⟨g,cap,cur,hv,hb,hg,h1,h2,h3,ht⟩
 ·omega
 ·refine⟨g,cap,hv,hb,⟨hl,h1,.inr ⟨g,0,rfl,(Vp.1 hg).1,fun j u hu=>?_,fun j hj=>?_⟩⟩⟩
  ·have hc:=cell_of_row w g (0+j) cur e (0,0) hg;rw[hc,Wa];rw[<-ht,iC]at hu;split at hu
   ·rw[<-Array.getElem?_toList];exact hu
   ·cases hu
  ·have hc:=cell_of_row w g (0+j) cur e (0,0) hg;rw[hc,Wa];refine⟨?_,?_⟩
   ·rw[Array.getElem?_eq_getElem (by simp only at hj;omega)];rfl
   ·unfold World.frozen?;simp[hg]
theorem dB{ops:Array Oper}{o:Oper}{a:Act}{w:l6}{K:Act->l6->Prop}{Q:Exit->Act->l6->Prop}{E:Prop}
  (hg:o.guard=none)(s x:Operand)(hop:o.op=Op.call {callee:=Callee.builtin Builtin.append,args:= #[s,x],argTypes:= #[358,358]})
  (A:iX)(n c:Nat){l:List Wt}(hs:a.eval s=.slice A n c)(hr:Wrow w ⟨A,n,c⟩ l)(y:Wt)(q c0:Nat)(hx:a.eval x=.slice (some ⟨q,0,none⟩) 1 c0)(hq:∀ j u,(ZY y)[j]?=some u->w.cell? ⟨q,j,none⟩=some u)(hn:l.length<=1000000)
  (hK:∀(A':iX)(c':Nat)(w':l6),Wrow w' ⟨A',n+1,c'⟩ (l++[y])->But (Sl.blk ⟨A,n,c⟩) w w'->(∀k,Sl.blk ⟨A',n+1,c'⟩ k->Sl.blk ⟨A,n,c⟩ k\/w.heap.size<=k)->K (a.put o.dst (.slice A' (n+1) c')) w'):
  if Region.wanted o (yielded ops a.tmps)=true then Oper.wp prog o a w K Q else E:=by
 obtain⟨i,hi,hz,ha,hd⟩:=info_parts Wt.info;have h3:=hr.len;have h8:=hr.cap;simp only at h3 h8;have h6:∀ j,(⟨q,0,none⟩:Addr).add j=⟨q,j,none⟩:=fun j=>by
  unfold Addr.add;split
  ·rename_i h;rw[h]
  ·simp
 have h9:∀ j u,(ZY y)[j]?=some u->w.cell? ((⟨q,0,none⟩:Addr).add j)=some u:=fun j u hu=>by rw[h6];exact hq j u hu
 have h5:∀ u∈ZY y,u.oneCell'=true:=by simp[Value.oneCell']
 rcases hr.at_ with⟨hA,hc⟩|⟨b,off,hA,h0,h1,h2⟩
 ·simp only at hA hc;subst hA hc;have hn0:n=0:=by omega
  subst hn0;have hl:l=[]:=yj h3;subst hl;refine step_append_grows hg s x _ hop 318 i _ 4 32 underlying358 hi hz ha hd rfl (by omega) none 0 0 [] hs (fun _=>⟨rfl,rfl⟩) rfl (fun b hb=>by cases hb) ⟨q,0,none⟩ 1 c0 (ZY y) hx rfl h9 h5 (by omega) (by simp only[maxLen];omega) (by omega) (fun v' w' ho hg'=>?_);obtain⟨g,cap,rfl,hb,hw⟩:=Wrow.of_owns (n:=0+1) (l:=[y]) (by simpa using ho) rfl (by omega);exact hK _ _ w' hw (But.of_grown hg' (fun k hk=>by cases hk)) (fun k hk=>by
   obtain⟨off,hk⟩:=hk;injection hk with hk;injection hk with hk _ _;exact .inr (by omega))
 ·simp only at hA;subst hA;by_cases h4:n+1<=c
  ·refine step_append_room hg s x _ hop 318 i 4 underlying358 hi ha b off n c hs ⟨q,0,none⟩ 1 c0 (ZY y) hx rfl h9 h5 h4 (fun j hj=>?_) ?_
   ·have:=h2 (n*4+j) (by simp at hj;simp only;omega)
    rwa [<-XS]at this
   ·exact hK _ _ _ (hr.room h4 y) (But.setCells _ b ⟨off,rfl⟩ _ _ _) (fun k hk=>.inl (by
     obtain⟨o',hk⟩:=hk;exact⟨o',hk⟩))
  ·refine step_append_grows hg s x _ hop 318 i _ 4 32 underlying358 hi hz ha hd rfl (by omega) (some ⟨b,off,none⟩) n c (l.flatMap ZY) hs (fun h=>by cases h) (by rw[flat_length Yv,h3]) (fun b' h7 j u hu=>?_) ⟨q,0,none⟩ 1 c0 (ZY y) hx rfl h9 h5 (by omega) (by simp only[maxLen];omega) (by omega) (fun v' w' ho hg'=>?_)
   ·injection h7 with h7;subst h7;have:=h1 j u hu;unfold Addr.add;split
    ·rename_i h;rw[h]at this;exact this
    ·exact this
   ·obtain⟨g,cap,rfl,hb,hw⟩:=Wrow.of_owns (l:=l++[y]) (by simpa using ho) (by simp[h3]) (by omega);exact hK _ _ w' hw (But.of_grown hg' (fun k hk=>by cases hk)) (fun k hk=>by
     obtain⟨o',hk⟩:=hk;injection hk with hk;injection hk with hk _ _;exact .inr (by omega))
theorem Bs.setO{w W:l6}{L:List (Nat×iZ)}(h:Bs w W L){a:Addr}(ha:w.heap.size<=a.block)(hL:∀ p∈L,a.block≠p.1)(u:Value):Bs w (W.setCell a u) L:=
 ⟨h.b.setCell ha u,fun p hp=>by
  obtain⟨h0,h1,h2⟩:=h.l p hp;exact⟨h0,by simpa using h1,h2.setOther (hL p hp) u⟩⟩
theorem Bs.setO3{w W:l6}{L:List (Nat×iZ)}(h:Bs w W L){q:Nat}(ha:w.heap.size<=q)(hL:∀ p∈L,q≠p.1)(u v y:Value):Bs w (((W.setCell ⟨q,0,none⟩ u).setCell ⟨q,1,none⟩ v).setCell ⟨q,2,none⟩ y) L:=
 ((h.setO (a:=⟨q,0,none⟩) ha hL u).setO (a:=⟨q,1,none⟩) ha hL v).setO (a:=⟨q,2,none⟩) ha hL y
theorem GG(x:Wt)(w:l6)(h0: -1000000<=x.frm)(h1:x.frm<=1000000)(h2: -1000000<=x.to_)(h3:x.to_<=1000000):Calls prog 224 #[x.v] w (fk (.agg #[O J x.frm,O J (yw (x.to_-x.frm)),O J x.car]) w):=by
 have h4:=ze (Bs.two w [O J x.id,O J x.frm,O J x.to_,O J x.car] [O J 0,O J 0,O J 0] 318 360);have HD:=ze (fun V=>qn x.frm x.to_ V (by omega) (by omega));generalize yw (x.to_-x.frm)=d at HD⊢
 go_in
 go_wp2_with fail;refine j9 (w:=w) (fun W=>Bs w W [(w.heap.size+1,[O J 0,O J 0,O J 0]),(w.heap.size,[O J x.id,O J x.frm,O J x.to_,O J x.car])]) h4.o (by go_grown) (by simp;omega) ?_;rintro W hb h7 h8;clear h4 h7 h8;have HB:=ze (hb.sub (M:=[(w.heap.size,[O J x.id,O J x.frm,O J x.to_,O J x.car])]) (by simp));obtain⟨⟨d0,d1,d2⟩,g0,g1,g2⟩:=(hb.cell (q:=w.heap.size+1) (l:=[O J 0,O J 0,O J 0]) (by simp)).o3;clear hb;have MK:=ze (fun(W:l6)(h:Bs w W [(w.heap.size,[O J x.id,O J x.frm,O J x.to_,O J x.car])])=>(show Bs w W [(w.heap.size,[O J x.id,O J x.frm,O J x.to_,O J x.car])]/\W.cell? ⟨w.heap.size,1,none⟩=some (O J x.frm)/\W.cell? ⟨w.heap.size,2,none⟩=some (O J x.to_)/\W.cell? ⟨w.heap.size,3,none⟩=some (O J x.car)from⟨h,((h.cell (q:=w.heap.size) (l:=[O J x.id,O J x.frm,O J x.to_,O J x.car]) (by simp)) 1 _ rfl).1,((h.cell (q:=w.heap.size) (l:=[O J x.id,O J x.frm,O J x.to_,O J x.car]) (by simp)) 2 _ rfl).1,((h.cell (q:=w.heap.size) (l:=[O J x.id,O J x.frm,O J x.to_,O J x.car]) (by simp)) 3 _ rfl).1⟩))
 go_region_held3 (fun W=>Bs w W [(w.heap.size,[O J x.id,O J x.frm,O J x.to_,O J x.car])]/\W.cell? ⟨w.heap.size,1,none⟩=some (O J x.frm)/\W.cell? ⟨w.heap.size,2,none⟩=some (O J x.to_)/\W.cell? ⟨w.heap.size,3,none⟩=some (O J x.car))
  (first|(with_reducible exact MK.o _ h6.o)|(with_reducible exact MK.o _ (Bs.setO3 HB.o (Ut _) (by simp) _ _ _).drew)|(with_reducible exact MK.o _ HB.o.drew))
  (first
   |(go_at_call 188;go_split_ands;(with_reducible refine(HD.o _).mono ?_);rintro r wX ⟨rfl,rfl⟩;have h6:=ze (show Bs w _ [(w.heap.size,[O J x.id,O J x.frm,O J x.to_,O J x.car])]from by assumption)))
 all_goals
  go_split_ands;have h5:=ze (show Bs w _ [(w.heap.size,[O J x.id,O J x.frm,O J x.to_,O J x.car])]from by assumption);go_wp2_with fail;refine bodyPost_ret (v:=.agg #[O J x.frm,O J d,O J x.car]) (by rw[zi rfl];go_simp) rfl ?_;exact⟨rfl,h5.o.b⟩
theorem Hl.comeMap{w w1 w2:l6}{h nw:Nat}{S:HS}{k:HK}{s':Sl}{l:List Wt}(H:Hl w h S)(hb:But (fun q=>∃ s0,S.fw k=some s0/\s0.blk q) w w1)(hr:Wrow w1 s' l)(hnew:∀ q,s'.blk q->(∃s0,S.fw k=some s0/\s0.blk q)\/w.heap.size<=q)
  (hg:w1.grownBy w2 S.mw)(hm:Mv hallK Sl.v w2 S.mw nw (upd S.fw k (some s')))(hwf:hallK.wf k):HNext w h S w2 (S.at_ S.mw nw k (some s') l):=by
 have h7:But (fun q=>S.mw=some q) w1 w2:=But.of_grown hg fun q hq=>hq
 have h6:But (fun q=>S.mw=some q\/∃ s0,S.fw k=some s0/\s0.blk q) w w2:=(hb.mono (Y:=fun q=>S.mw=some q\/∃ s0,S.fw k=some s0/\s0.blk q) fun _ _ h=>.inr h).trans h7 (fun _ _ h=>.inl h);have hd:∀ q,(S.mw=some q\/∃ s0,S.fw k=some s0/\s0.blk q)->Xh S h q:=fun q hq=>by
  rcases hq with hq|⟨s0,h1,h2⟩
  ·exact .inr (.inl hq)
  ·exact .inr (.inr (.inr ⟨k,s0,h1,h2⟩))
 have hh:w2.heap[h]?=w.heap[h]?:=h6.block h (H.xlt (.inl rfl)) (by
  rintro(e|⟨s0,h1,h2⟩)
  ·exact H.ne1 e
  ·exact(H.off k s0 h h1 h2).1 rfl)
 have g:=fun o=>vg (a:=⟨h,o,none⟩) hh
 have gf:=fun o=>xC (a:=⟨h,o,none⟩) hh
 obtain⟨n,hc⟩:=H.c2;have h8:∀ b,s'.blk b->b<w1.heap.size:=fun b h3=>hr.lt h3
 have ha:∀ b,S.mw=some b->b<w.heap.size:=fun b hb=>H.xlt (.inr (.inl hb))
 have h4:∀ b,s'.blk b->S.mw≠some b/\S.mc≠some b/\b≠h:=fun b h3=>by
  rcases hnew b h3 with⟨s0,h1,h2⟩|h1
  ·exact⟨(H.off k s0 b h1 h2).2.1,(H.off k s0 b h1 h2).2.2,(H.off k s0 b h1 h2).1⟩
  ·refine⟨fun e=>?_,fun e=>?_,fun e=>?_⟩
   ·have:=H.xlt (.inr (.inl e));omega
   ·have:=H.xlt (.inr (.inr (.inl e)));omega
   ·have:=H.xlt (.inl e);omega
 refine⟨⟨(g 0).trans H.c0,(g 1).trans H.c1,⟨n,(g 2).trans hc⟩,(gf 0).trans H.f0,(gf 1).trans H.f1,(gf 2).trans H.f2,hm,H.m2.but h6 (fun b h9 e=>by
   rcases e with e|⟨s0,h1,h2⟩
   ·exact H.ne3 b e h9
   ·exact(H.off k s0 b h1 h2).2.2 h9),H.ne1,H.ne2,H.ne3,fun k' s hk=>?_,fun k' hk=>?_,fun k1 k2 s1 s2 b h1 h2 b1 b2=>?_,fun k' s b hk h3=>?_⟩,h6.mono fun q _ hq=>hd q hq,fun q hq hx=>?_⟩
 ·by_cases e:k'=k
  ·subst e;have h0:upd S.fw k' (some s') k'=some s:=hk;rw[zK]at h0;injection h0 with h0;subst h0;refine⟨hwf,?_⟩
   show Wrow w2 s' (qf S.L k' l k')
   rw[jp];exact hr.keep h7.size fun b h3=>h7.block b (h8 b h3) (h4 b h3).1
  ·have h0:upd S.fw k (some s') k'=some s:=hk;rw[zv _ _ e]at h0;refine⟨(H.row k' s h0).1,?_⟩
   show Wrow w2 s (qf S.L k l k')
   rw[zU _ _ e];exact(H.row k' s h0).2.keep h6.size fun b h3=>h6.block b (H.xlt (.inr (.inr (.inr ⟨k',s,h0,h3⟩)))) (by
    rintro(e2|⟨s0,h1,h2⟩)
    ·exact(H.off k' s b h0 h3).2.1 e2
    ·exact e (H.sep k' k s s0 b h0 h1 h3 h2))
 ·by_cases e:k'=k
  ·subst e;have h0:upd S.fw k' (some s') k'=none:=hk;rw[zK]at h0;cases h0
  ·have h0:upd S.fw k (some s') k'=none:=hk;rw[zv _ _ e]at h0
   show qf S.L k l k'=[]
   rw[zU _ _ e];exact H.non k' h0
 ·have h5:upd S.fw k (some s') k1=some s1:=h1;have h2':upd S.fw k (some s') k2=some s2:=h2;by_cases e1:k1=k
  ·by_cases e2:k2=k
   ·rw[e1,e2]
   ·subst e1;rw[zK]at h5;rw[zv _ _ e2]at h2';injection h5 with h5;subst h5;rcases hnew b b1 with⟨s0,q1,q2⟩|q1
    ·exact H.sep _ _ s0 s2 b q1 h2' q2 b2
    ·have:=H.xlt (.inr (.inr (.inr ⟨k2,s2,h2',b2⟩)));omega
  ·by_cases e2:k2=k
   ·subst e2;rw[zK]at h2';rw[zv _ _ e1]at h5;injection h2' with h2';subst h2';rcases hnew b b2 with⟨s0,q1,q2⟩|q1
    ·exact H.sep _ _ s1 s0 b h5 q1 b1 q2
    ·have:=H.xlt (.inr (.inr (.inr ⟨k1,s1,h5,b1⟩)));omega
   ·rw[zv _ _ e1]at h5;rw[zv _ _ e2]at h2';exact H.sep k1 k2 s1 s2 b h5 h2' b1 b2
 ·have h0:upd S.fw k (some s') k'=some s:=hk;by_cases e:k'=k
  ·subst e;rw[zK]at h0;injection h0 with h0;subst h0;exact⟨(h4 b h3).2.2,(h4 b h3).1,(h4 b h3).2.1⟩
  ·rw[zv _ _ e]at h0;exact H.off k' s b h0 h3
 ·rcases hx with hx|hx|hx|⟨k',s,hk,h3⟩
  ·exact .inl hx
  ·exact .inr (.inl hx)
  ·exact .inr (.inr (.inl hx))
  ·have h0:upd S.fw k (some s') k'=some s:=hk;by_cases e:k'=k
   ·subst e;rw[zK]at h0;injection h0 with h0;subst h0;rcases hnew q h3 with⟨s0,h1,h2⟩|h1
    ·exact .inr (.inr (.inr ⟨k',s0,h1,h2⟩))
    ·omega
   ·rw[zv _ _ e]at h0;exact .inr (.inr (.inr ⟨k',s,h0,h3⟩))
def HS.waits(S:HS)(mw:Option Nat)(nw:Nat)(fw:HK->Option Sl):HS:={S with mw:=mw,nw:=nw,fw:=fw}
theorem Hl.waitMade{w:l6}{h:Nat}{S:HS}(H:Hl w h S)(hn:S.mw=none):HNext w h S ((w.setCell ⟨h,0,none⟩ (.map (some w.heap.size))).alloc (.map #[] 0)) (S.waits (some w.heap.size) 0 (fun _=>none))/\S.fw=fun _=>none:=by
 have h4:S.fw=fun _=>none:=by
  have:=H.m1;rw[hn]at this;rcases this with⟨-,h2⟩|⟨b,D,h2,-⟩
  ·funext x;exact h2 x
  ·cases h2
 have h8:=H.xlt (.inl rfl);have h7:(w.alloc (.map #[] 0)).setCell ⟨h,0,none⟩ (.map (some w.heap.size))=(w.setCell ⟨h,0,none⟩ (.map (some w.heap.size))).alloc (.map #[] 0):=by
  unfold World.setCell World.alloc;simp only
  congr 1
  apply Array.ext
  ·simp
  ·intro j h1 h2;simp only[iJ,iU,Array.size_modify];by_cases hj:j<w.heap.size
   ·simp[hj]
   ·have:¬ h=j:=by omega
    simp[hj,this]
 rw[<-h7];have hb:=(Below.refl w.heap.size w).alloc fi (.map #[] 0);have H1:=H.below hb;have h3:But (fun k=>k=h) w ((w.alloc (.map #[] 0)).setCell ⟨h,0,none⟩ (.map (some w.heap.size))):=(But.of_below (X:=fun k=>k=h) hb).set (a:=⟨h,0,none⟩) (.inl rfl) _;have h0:=Mv.made hallK Sl.v w;have h6:w.heap.size≠h:=by omega
 obtain⟨n,h5⟩:=H1.c2;refine⟨⟨⟨KO _ _ _ H1.c0,?_,⟨n,?_⟩,by rw[yD];exact H1.f0,by rw[yD];exact H1.f1,by rw[yD];exact H1.f2,?_,H.m2.but h3 (fun b hm e=>H.ne2 (e▸hm)),fun e=>h6 (ve e),H.ne2,fun b hm e=>?_,fun k s hk=>(by cases hk),fun k _=>H.non k (by rw[h4]),fun k k' s s' b hk=>(by cases hk),fun k s b hk=>(by cases hk)⟩,h3.mono fun k _ hk=>.inl hk,fun k hk hx=>?_⟩,h4⟩
 ·rw[Zm _ _ _ _ (by intro e;injection e with _ e _;exact absurd e (by decide))];exact H1.c1
 ·rw[Zm _ _ _ _ (by intro e;injection e with _ e _;exact absurd e (by decide))];exact h5
 ·refine h0.but (X:=fun k=>k=h) ((But.refl (fun k=>k=h) _).set (a:=⟨h,0,none⟩) (.inl rfl) _) (fun b hb e=>?_);injection hb with hb;omega
 ·have:=H.m2.lt e;injection hm with hm;omega
 ·rcases hx with hx|hx|hx|⟨_,_,hx,_⟩
  ·exact .inl hx
  ·injection hx with hx;omega
  ·exact .inr (.inr (.inl hx))
  ·cases hx
def GH(w:l6)(h:Nat)(S:HS)(k:HK)(x:Wt)(w':l6):Prop:=∃ S',HNext w h S w' S'/\S'.L=qf S.L k (S.L k++[x])/\S'.nw<=S.nw+1/\S'.nc=S.nc/\S'.fc=S.fc/\(S.ne->S'.ne)
def Zb(w0 V:l6)(a b:Nat):Prop:=V.heap[a]?=w0.heap[a]?/\V.heap[b]?=w0.heap[b]?/\w0.heap.size<=V.heap.size
theorem Zb.of{w0 V:l6}{a b:Nat}(hb:fj w0 V)(ha:a<w0.heap.size)(hb':b<w0.heap.size):Zb w0 V a b:=⟨hb.block a ha,hb.block b hb',hb.size⟩
theorem Zb.al{w0 V:l6}{a b:Nat}(h:Zb w0 V a b)(ha:a<w0.heap.size)(hb:b<w0.heap.size)(o:Obj):Zb w0 (V.alloc o) a b:=by
 have hs:=h.2.2;have h0:=(Below.refl V.heap.size V).alloc fi o;exact⟨(h0.block a (by omega)).trans h.1,(h0.block b (by omega)).trans h.2.1,by simp;omega⟩
theorem Zb.but{w0 V W:l6}{a b:Nat}{X:Nat->Prop}(h:Zb w0 V a b)(ha:a<w0.heap.size)(hb:b<w0.heap.size)(hx:But X V W)(na:¬ X a)(nb:¬ X b):Zb w0 W a b:=by
 have hs:=h.2.2;exact⟨(hx.block a (by omega) na).trans h.1,(hx.block b (by omega) nb).trans h.2.1,vD hs hx.size⟩
theorem GI{w wc V w':l6}{h bm nw n c c':Nat}{S:HS}{k:HK}{x:Wt}{A A':iX}(HN0:HNext w h S wc (S.waits (some bm) nw S.fw))(hnw:nw<=S.nw)(hnw2:S.nw<=1000000)(hk:hallK.wf k)(hsl:(S.fw k).getD ⟨none,0,0⟩=⟨A,n,c⟩)
  (hV:fj wc V)(hw':Wrow w' ⟨A',n+1,c'⟩ (S.L k++[x]))(hb':But (Sl.blk ⟨A,n,c⟩) V w')(hnew:∀ q,Sl.blk ⟨A',n+1,c'⟩ q->Sl.blk ⟨A,n,c⟩ q\/V.heap.size<=q):
  ∃w6,(Instr.mapUpdate 303 (.map (some bm)) (.agg #[O J k.1,O J k.2.1,O J k.2.2]) (.slice A' (n+1) c')).run prog w'=.ok () w6/\GH w h S k x w6/\But (Xh (S.waits (some bm) nw S.fw) h) V w6/\(∀q,Sl.blk ⟨A,n,c⟩ q->Xh (S.waits (some bm) nw S.fw) h q/\q≠h)/\But (fun q=>q=bm) w' w6:=by
 have HV:=HN0.hl.below hV;have h0:∀ q,Sl.blk ⟨A,n,c⟩ q->∃ s0,S.fw k=some s0/\s0.blk q:=fun q hq=>by
  cases hf:S.fw k with
  |none=>rw[hf]at hsl;simp only[Option.getD_none]at hsl;injection hsl with e1 e2 e3;subst e1;obtain⟨o,ho⟩:=hq;cases ho
  |some s0=>rw[hf]at hsl;simp only[Option.getD_some]at hsl;exact⟨s0,rfl,hsl▸hq⟩
 have hm:Mv hallK Sl.v w' (some bm) nw S.fw:=HV.m1.but hb' (fun b hb e=>by
  obtain⟨s0,h1,h2⟩:=h0 b e;exact(HV.off k s0 b h1 h2).2.1 hb)
 obtain⟨w6,h3,h6,h4⟩:=hm.store (T:=303) (E:=358) underlying303 (show nw<maxLen from by simp only[maxLen];omega) (x:=k) hk ⟨A',n+1,c'⟩;have HF:=HV.comeMap (k:=k) (s':=⟨A',n+1,c'⟩) (l:=S.L k++[x]) (hb'.mono fun q _ hq=>h0 q hq) hw' (fun q hq=>(hnew q hq).imp (h0 q) id) h4 h6 hk;refine⟨w6,h3,⟨_,(HN0.trans (HNext.refl HN0.hl hV)).trans HF,rfl,by show nw+1<=S.nw+1;omega,rfl,rfl,fun h7 k' h5=>by
  by_cases e:k'=k
  ·subst e;show qf S.L k' _ k'≠[];rw[jp];simp
  ·show qf S.L k _ k'≠[];rw[zU _ _ e];refine h7 k' ?_;have h2:(upd S.fw k _ k').isSome=true:=h5;rw[zv _ _ e]at h2;exact h2⟩,HF.but,fun q hq=>?_,But.of_grown h4 fun q hq=>(ve hq).symm⟩
 obtain⟨s0,h1,h2⟩:=h0 q hq;exact⟨.inr (.inr (.inr ⟨k,s0,h1,h2⟩)),(HV.off k s0 q h1 h2).1⟩
theorem Ju(h:Nat)(S:HS)(x:Wt)(w:l6)(H:Hl w h S)(h0: -1000000<=x.frm)(h1:x.frm<=1000000)(h2: -1000000<=x.to_)(h3:x.to_<=1000000)(h4: -1000000000<=x.car)(h5:x.car<=1000000000)(hnw:S.nw<=1000000)(hl:∀ k,(S.L k).length<=1000000):
  Calls prog 187 #[.pointer (some ⟨h,0,none⟩),x.v] w fun e w'=>e=.returned (.tuple #[])/\GH w h S (x.frm,yw (x.to_-x.frm),x.car) x w':=by
 have HB:=ze (Bs.one w [O J x.id,O J x.frm,O J x.to_,O J x.car] 318);have hs:=ze (fun V=>GG x V h0 h1 h2 h3);have hy:hallK.wf (x.frm,yw (x.to_-x.frm),x.car):=⟨zQ (by omega) (by omega),by rcases ZX (x.to_-x.frm)with e|e|e<;>(show jX (yw _);rw[e];exact zQ (by omega) (by omega)),zQ h4 h5⟩;generalize yw (x.to_-x.frm)=d at hs hy⊢;have HK:=ze hy;have HC:=ze H;clear H h0 h1 h2 h3 h4 h5 hy;have hC:=fun(W:l6)(r:Option Nat)=>run_eql_map_nil (P:=prog) W _ _ _ r underlying303
 have H5:= @run_makeMap prog;have Ha:=HC.o.xlt (.inl rfl)
 go_in
 go_upto_region 1 with(fail);refine zq (w:=w) (fun V=>Bs w V [(w.heap.size,[O J x.id,O J x.frm,O J x.to_,O J x.car])]) HB.o HB.o.b ?_;rintro V hv hJ;have HV:=ze hv;have HX:=ze (HC.o.below hJ);have c0:=HX.o.c0;have f0:=HX.o.f0;have H4:=HX.o.xlt (.inl rfl);clear hv hJ HB
 go_upto_if 8 with(fail)
 go_cut [] (fun wx=>∃ bm nw,HNext V h S wx (S.waits (some bm) nw S.fw)/\nw<=S.nw)
 case first=>
  cases hd:S.mw with
  |none=>
   obtain⟨hN,hO⟩:=HX.o.waitMade hd;have HM:=ze hN;have hU:=ze hO;rw[hd]at c0;clear hd hN hO;go_wp2_with fail
   go_meet
   exact⟨_,0,by rw[hU.o];exact HM.o,vf _⟩
  |some bm=>
   have HM:=ze (show HNext V h S V (S.waits (some bm) S.nw S.fw)from hd▸HNext.refl HX.o fh);rw[hd]at c0;clear hd;go_wp2_with fail
   go_meet
   exact⟨bm,S.nw,HM.o,fi⟩
 case rest=>
  obtain⟨bm,nw,hn,hA⟩:=hcut;have hW:=ze ((HNext.refl HC.o HV.o.b).trans hn);have H7:=ze hA;have hm:=(HV.o.but hn.but (fun q hq=>HC.o.xlt hq)) (w.heap.size,[O J x.id,O J x.frm,O J x.to_,O J x.car]) (by simp);have H6:=ze hm.2.2;have hB:=hm.2.1;have h8:=hn.hl.xlt (.inl rfl);have c1:wc.cell? ⟨h,0,none⟩=some (.map (some bm)):=hn.hl.c0;obtain⟨⟨e0,e1,e2,e3⟩,-⟩:=hm.2.2.o4;generalize h7:(S.fw (x.frm,d,x.car)).getD ⟨none,0,0⟩=sl;have h9:Wrow wc sl (S.L (x.frm,d,x.car)):=by
   cases hf:S.fw (x.frm,d,x.car)with
   |none=>rw[hf]at h7;simp only[Option.getD_none]at h7;subst h7;rw[HC.o.non _ hf];exact⟨rfl,fi,.inl ⟨rfl,rfl⟩⟩
   |some s0=>rw[hf]at h7;simp only[Option.getD_some]at h7;subst h7;exact(hn.hl.row _ _ hf).2
  obtain⟨A,n,c⟩:=sl;have H8:=ze h7;have hT:=ze (hl (x.frm,d,x.car));have hF:=ze (fun V(hb:fj wc V)=>(show(Instr.lookup 303 (.map (some bm)) (.agg #[O J x.frm,O J d,O J x.car]) false).run prog V=.ok (.slice A n c) V from by
   have:=(hn.hl.below hb).lookw HK.o;have e:((S.waits (some bm) nw S.fw).fw (x.frm,d,x.car)).getD ⟨none,0,0⟩=⟨A,n,c⟩:=h7;rw[e]at this;exact this))
  have hY:=ze (fun V(hb:fj wc V)=>(show Wrow V ⟨A,n,c⟩ (S.L (x.frm,d,x.car))from h9.keep hb.size fun b H2=>hb.block b (h9.lt H2)));have hr:=ze (fun V w'(A':iX)(c':Nat)(hV:fj wc V) ho(hg:But (Sl.blk ⟨A,n,c⟩) V w') hnew=>(show∃w6,(Instr.mapUpdate 303 (.map (some bm)) (.agg #[O J x.frm,O J d,O J x.car]) (.slice A' (n+1) c')).run prog w'=.ok () w6/\GH w h S (x.frm,d,x.car) x w6/\But (Xh (S.waits (some bm) nw S.fw) h) V w6/\(∀q,Sl.blk ⟨A,n,c⟩ q->Xh (S.waits (some bm) nw S.fw) h q/\q≠h)/\But (fun q=>q=bm) w' w6 from GI (x:=x) (A':=A') (c':=c') hW.o hA hnw HK.o h7 hV ho hg hnew));have hD:¬ Xh (S.waits (some bm) nw S.fw) h w.heap.size:=fun hx=>by
   have:=HC.o.xlt (hn.x _ (HV.o.lt (q:=w.heap.size) (l:=[O J x.id,O J x.frm,O J x.to_,O J x.car]) (by simp)) hx);omega
  have hL:bm≠h:=fun e=>hn.hl.ne1 (by rw[<-e];rfl)
  have hi:bm≠w.heap.size:=fun e=>hD (.inr (.inl (by rw[<-e];rfl)))
  have hX:=ze hD;have hR:=ze hL;have hp:=ze hi;have MK:=ze (fun V(hz:Zb wc V h w.heap.size)=>(show V.cell? ⟨h,0,none⟩=some (.map (some bm))/\V.cell? ⟨w.heap.size,0,none⟩=some (O J x.id)/\V.cell? ⟨w.heap.size,1,none⟩=some (O J x.frm)/\V.cell? ⟨w.heap.size,2,none⟩=some (O J x.to_)/\V.cell? ⟨w.heap.size,3,none⟩=some (O J x.car)from
   ⟨(vg (a:=⟨h,0,none⟩) hz.1).trans c1,(vg (a:=⟨w.heap.size,0,none⟩) hz.2.1).trans e0,(vg (a:=⟨w.heap.size,1,none⟩) hz.2.1).trans e1,(vg (a:=⟨w.heap.size,2,none⟩) hz.2.1).trans e2,(vg (a:=⟨w.heap.size,3,none⟩) hz.2.1).trans e3⟩))
  have hZ:=ze (Zb.of (Below.refl wc.heap.size wc).drew h8 hB);have ht:=ze (fun o=>Zb.of (V:=(wc.alloc o).drew) ((Below.refl wc.heap.size wc).alloc fi o).drew h8 hB);have ha:=ze h8;have hc:=ze hB;clear hn hA hm h7 h9 hC H5 hl hD hL hi;go_wp2_with fail
  go_region_held3 (fun V=>V.cell? ⟨h,0,none⟩=some (.map (some bm))/\V.cell? ⟨w.heap.size,0,none⟩=some (O J x.id)/\V.cell? ⟨w.heap.size,1,none⟩=some (O J x.frm)/\V.cell? ⟨w.heap.size,2,none⟩=some (O J x.to_)/\V.cell? ⟨w.heap.size,3,none⟩=some (O J x.car))
   (first|(with_reducible exact MK.o _ H0.o)|(with_reducible exact MK.o _ HZ.o)|(with_reducible exact MK.o _ (Zb.al HZ.o ha.o hc.o _))|(with_reducible exact MK.o _ hZ.o)|(with_reducible exact MK.o _ (ht.o _)))
   (first
   |(refine dB rfl _ _ rfl A n c rfl (hY.o _ (by first|exact h6.o|(go_grown;exact h6.o))) x _ _ rfl (by first|exact(fun j u hu=>(HQ.o j u hu).1)|exact(fun j u hu=>(Bx.new _ _ _ j u hu).1)) hT.o ?_;intro A' c' w' ho hg hP;obtain⟨w6,hQ,hM,H1,hE,hI⟩:=hr.o _ _ A' c' (by first|exact h6.o|(go_grown;exact h6.o)) ho hg hP;have hw:=ze ((show Zb wc _ h w.heap.size from Zb.of (by first|exact h6.o|(go_grown;exact h6.o)) ha.o hc.o).but ha.o hc.o hg (fun hx=>(hE _ hx).2 rfl) (fun hx=>hX.o (hE _ hx).1));clear HZ;have HZ:=ze hw.o;have H0:=ze (hw.o.but ha.o hc.o hI (fun e=>hR.o e.symm) (fun e=>hp.o e.symm));have hS:=ze hM;clear ho hg hP hM H1 hE hI hw)
   |(go_at_call 224;have _t:=he;go_split_ands;refine(hs.o _).mono ?_;rintro e wb ⟨rfl,hk⟩;have h6:=ze ((show fj wc _ from by first|exact he.o|(go_grown;exact he.o)).trans (hk.mono (by first|(simp;done)|(simp;omega)|omega)));clear HZ;have HZ:=ze (Zb.of h6.o ha.o hc.o);have Hj:=h6.o.size;have H9:=hF.o _ h6.o;have H3:=fun o=>hF.o _ (h6.o.alloc h6.o.size o);(first|(have hG:=ze (HQ.o.below hk (HQ.o.lt (by simp)));clear HQ;have HQ:=ze hG.o;clear hG)|(have HQ:=ze ((Bx.new wa (ZY x) 318).below hk (by simp)))|skip);clear hk)
   |(go_at_call 224;go_split_ands;refine(hs.o _).mono ?_;rintro e wa ⟨rfl,hj⟩;have he:=ze ((show fj wc _ from by go_grown).trans (hj.mono (by first|(simp;done)|(simp;omega)|omega)));have HZ:=ze (Zb.of he.o ha.o hc.o);have Hc:=he.o.size;(first|(have HQ:=ze ((Bx.new wc (ZY x) 318).drew.below hj (by simp)))|(have HQ:=ze ((Bx.new wc (ZY x) 318).below hj (by simp)))|skip);clear hj))
  all_goals
   go_wp2_with fail;go_end0;exact⟨rfl,hS.o⟩
end
end Go.Proofs.YtdeogmbfgkepeaaGreatDoor
