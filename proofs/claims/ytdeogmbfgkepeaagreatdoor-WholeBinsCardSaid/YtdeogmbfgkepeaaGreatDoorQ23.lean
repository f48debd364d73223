/- Contracts that WholeBins needs. Each tells its conditions. -/
import Derived.Deep.RegionLawGrows
import Derived.Deep.Upon
import Derived.Laws.IdiomCopy
import Derived.Test.YtdeogmbfgkepeaaGreatDoorQ19
set_option linter.unusedVariables false
set_option linter.unusedSimpArgs false
set_option maxRecDepth 100000
set_option maxHeartbeats 64000000
namespace Go.Proofs.YtdeogmbfgkepeaaGreatDoor
open Go.Proofs.Tryz
open Go.Value renaming int->O
open Go.IntKind renaming i64->J
section
open Go.RowKit HB Go.Maps CalP
theorem Wt.info:(prog.info? 318).map (fun i=>(i.zero,i.size,i.bytes))=some (some (.agg #[O J 0,O J 0,O J 0,O J 0]),4,32):=by kernel_rfl
theorem But.setCells(X:Nat->Prop)(b:Nat)(hb:X b):∀(vs:List Value)(o:Nat)(w:World),But X w (w.setCells b o vs)
 |[],o,w=>But.refl X w
 |v::r,o,w=>(((But.refl X w).set (a:=⟨b,o,none⟩) (.inl hb) v)).trans (But.setCells X b hb r (o+1) _) (fun _ _ h=>h)
theorem Yv(x:Wt):(ZY x).length=4:=rfl
theorem Wrow.room{w:World}{b off n c:Nat}{l:List Wt}(h:Wrow w ⟨some ⟨b,off,none⟩,n,c⟩ l)(hc:n+1<=c)(y:Wt):Wrow (w.setCells b (off+n*4) (ZY y)) ⟨some ⟨b,off,none⟩,n+1,c⟩ (l++[y]):=by
 have hlen:=h.len;simp only at hlen;rcases h.at_ with h1|⟨b',off',hA,h0,h1,h2⟩
 ·cases h1.1
 ·injection hA with hA;injection hA with e1 e2 _;subst e1 e2;simp only at h2;refine⟨by simp[hlen],by simp only;omega,.inr ⟨b,off,rfl,?_,fun j u hu=>?_,fun j hj=>?_⟩⟩
  ·exact Nat.lt_of_lt_of_le h0 (But.setCells (fun _=>True) b trivial (ZY y) _ w).size
  ·rw[List.flatMap_append]at hu;have hfl:(l.flatMap ZY).length=n*4:=by rw[flat_length Yv,hlen]
   by_cases hj:j<n*4
   ·rw[List.getElem?_append_left (by omega)]at hu;rw[World.cell?_setCells_out _ _ _ _ _ (fun _ _=>.inl (by simp only;omega))];exact h1 j u hu
   ·rw[List.getElem?_append_right (by omega),hfl]at hu;have hj4:j-n*4<(ZY y).length:=by
     have:=(List.getElem?_eq_some_iff.1 hu).1;simpa using this
    have hin:=World.cell?_setCells_in b (ZY y) (off+n*4) w (fun i hi=>(by
     have:=(h2 (n*4+i) (by simp at hi;omega)).1
     rwa [<-Nat.add_assoc]at this)) (j-n*4) hj4
    have ha:off+n*4+(j-n*4)=off+j:=by omega
    rw[ha]at hin;rw[hin];have hu':(ZY y)[j-n*4]?=some u:=by simpa using hu
    rw[List.getElem?_eq_getElem hj4]at hu';exact hu'
  ·rw[World.frozen?_setCells];have h3:=h2 j hj;refine⟨?_,h3.2⟩;by_cases hin:n*4<=j/\j<n*4+4
   ·have hin2:=World.cell?_setCells_in b (ZY y) (off+n*4) w (fun i hi=>(by
     have:=(h2 (n*4+i) (by simp at hi;omega)).1
     rwa [<-Nat.add_assoc]at this)) (j-n*4) (by simp;omega)
    have ha:off+n*4+(j-n*4)=off+j:=by omega
    rw[ha]at hin2;rw[hin2];rfl
   ·rw[World.cell?_setCells_out _ _ _ _ _ (fun _ _=>by simp;omega)];exact h3.1
theorem Wrow.of_owns{w:World}{base n:Nat}{e:TypeId}{v:Value}{l:List Wt}(h:w.ownsRow base e 4 v n (l.flatMap ZY))(hl:l.length=n)(hn:0<n):∃ g cap,v=.slice (some ⟨g,0,none⟩) n cap/\base<=g/\Wrow w ⟨some ⟨g,0,none⟩,n,cap⟩ l:=by
 obtain⟨hx,h⟩:=h;rcases h with⟨-,h0⟩|⟨g,cap,cur,hv,hb,hg,hnc,hcm,hcs,ht⟩
 ·omega
 ·refine⟨g,cap,hv,hb,⟨hl,hnc,.inr ⟨g,0,rfl,(Array.getElem?_eq_some_iff.1 hg).1,fun j u hu=>?_,fun j hj=>?_⟩⟩⟩
  ·have hc:=cell_of_row w g (0+j) cur e (0,0) hg;rw[hc,Nat.zero_add];rw[<-ht,List.getElem?_take]at hu;split at hu
   ·rw[<-Array.getElem?_toList];exact hu
   ·cases hu
  ·have hc:=cell_of_row w g (0+j) cur e (0,0) hg;rw[hc,Nat.zero_add];refine⟨?_,?_⟩
   ·rw[Array.getElem?_eq_getElem (by simp only at hj;omega)];rfl
   ·unfold World.frozen?;simp[hg]
theorem dB{ops:Array Oper}{o:Oper}{a:Act}{w:World}{K:Act->World->Prop}{Q:Exit->Act->World->Prop}{E:Prop}
  (hg:o.guard=none)(s x:Operand)(hop:o.op=Op.call {callee:=Callee.builtin Builtin.append,args:= #[s,x],argTypes:= #[358,358]})
  (A:Option Addr)(n c:Nat){l:List Wt}(hs:a.eval s=.slice A n c)(hr:Wrow w ⟨A,n,c⟩ l)(y:Wt)(q c0:Nat)(hx:a.eval x=.slice (some ⟨q,0,none⟩) 1 c0)(hq:∀ j u,(ZY y)[j]?=some u->w.cell? ⟨q,j,none⟩=some u)(hn:l.length<=1000000)
  (hK:∀(A':Option Addr)(c':Nat)(w':World),Wrow w' ⟨A',n+1,c'⟩ (l++[y])->But (Sl.blk ⟨A,n,c⟩) w w'->(∀k,Sl.blk ⟨A',n+1,c'⟩ k->Sl.blk ⟨A,n,c⟩ k\/w.heap.size<=k)->K (a.put o.dst (.slice A' (n+1) c')) w'):
  if Region.wanted o (yielded ops a.tmps)=true then Oper.wp prog o a w K Q else E:=by
 obtain⟨i,hi,hz,hzz,hbb⟩:=info_parts Wt.info;have hlen:=hr.len;have hcap:=hr.cap;simp only at hlen hcap;have hadd:∀ j,(⟨q,0,none⟩:Addr).add j=⟨q,j,none⟩:=fun j=>by
  unfold Addr.add;split
  ·rename_i h;rw[h]
  ·simp
 have hq':∀ j u,(ZY y)[j]?=some u->w.cell? ((⟨q,0,none⟩:Addr).add j)=some u:=fun j u hu=>by rw[hadd];exact hq j u hu
 have h1c:∀ u∈ZY y,u.oneCell'=true:=by simp[Value.oneCell']
 rcases hr.at_ with⟨hA,hc⟩|⟨b,off,hA,h0,h1,h2⟩
 ·simp only at hA hc;subst hA hc;have hn0:n=0:=by omega
  subst hn0;have hl:l=[]:=List.eq_nil_of_length_eq_zero hlen;subst hl;refine step_append_grows hg s x _ hop 318 i _ 4 32 underlying358 hi hz hzz hbb rfl (by omega) none 0 0 [] hs (fun _=>⟨rfl,rfl⟩) rfl (fun b hb=>by cases hb) ⟨q,0,none⟩ 1 c0 (ZY y) hx rfl hq' h1c (by omega) (by simp only[maxLen];omega) (by omega) (fun v' w' ho hg'=>?_);obtain⟨g,cap,rfl,hb,hw⟩:=Wrow.of_owns (n:=0+1) (l:=[y]) (by simpa using ho) rfl (by omega);exact hK _ _ w' hw (But.of_grown hg' (fun k hk=>by cases hk)) (fun k hk=>by
   obtain⟨off,hk⟩:=hk;injection hk with hk;injection hk with hk _ _;exact .inr (by omega))
 ·simp only at hA;subst hA;by_cases hroom:n+1<=c
  ·refine step_append_room hg s x _ hop 318 i 4 underlying358 hi hzz b off n c hs ⟨q,0,none⟩ 1 c0 (ZY y) hx rfl hq' h1c hroom (fun j hj=>?_) ?_
   ·have:=h2 (n*4+j) (by simp at hj;simp only;omega)
    rwa [<-Nat.add_assoc]at this
   ·exact hK _ _ _ (hr.room hroom y) (But.setCells _ b ⟨off,rfl⟩ _ _ _) (fun k hk=>.inl (by
     obtain⟨o',hk⟩:=hk;exact⟨o',hk⟩))
  ·refine step_append_grows hg s x _ hop 318 i _ 4 32 underlying358 hi hz hzz hbb rfl (by omega) (some ⟨b,off,none⟩) n c (l.flatMap ZY) hs (fun h=>by cases h) (by rw[flat_length Yv,hlen]) (fun b' hb' j u hu=>?_) ⟨q,0,none⟩ 1 c0 (ZY y) hx rfl hq' h1c (by omega) (by simp only[maxLen];omega) (by omega) (fun v' w' ho hg'=>?_)
   ·injection hb' with hb';subst hb';have:=h1 j u hu;unfold Addr.add;split
    ·rename_i h;rw[h]at this;exact this
    ·exact this
   ·obtain⟨g,cap,rfl,hb,hw⟩:=Wrow.of_owns (l:=l++[y]) (by simpa using ho) (by simp[hlen]) (by omega);exact hK _ _ w' hw (But.of_grown hg' (fun k hk=>by cases hk)) (fun k hk=>by
     obtain⟨o',hk⟩:=hk;injection hk with hk;injection hk with hk _ _;exact .inr (by omega))
theorem Bs.setO{w W:World}{L:List (Nat×List Value)}(h:Bs w W L){a:Addr}(ha:w.heap.size<=a.block)(hL:∀ p∈L,a.block≠p.1)(u:Value):Bs w (W.setCell a u) L:=
 ⟨h.b.setCell ha u,fun p hp=>by
  obtain⟨h0,h1,h2⟩:=h.l p hp;exact⟨h0,by simpa using h1,h2.setOther (hL p hp) u⟩⟩
theorem Bs.setO3{w W:World}{L:List (Nat×List Value)}(h:Bs w W L){q:Nat}(ha:w.heap.size<=q)(hL:∀ p∈L,q≠p.1)(u v y:Value):Bs w (((W.setCell ⟨q,0,none⟩ u).setCell ⟨q,1,none⟩ v).setCell ⟨q,2,none⟩ y) L:=
 ((h.setO (a:=⟨q,0,none⟩) ha hL u).setO (a:=⟨q,1,none⟩) ha hL v).setO (a:=⟨q,2,none⟩) ha hL y
theorem GG(x:Wt)(w:World)(h0: -1000000<=x.frm)(h1:x.frm<=1000000)(h2: -1000000<=x.to_)(h3:x.to_<=1000000):Calls prog 224 #[x.v] w (fk (.agg #[O J x.frm,O J (yw (x.to_-x.frm)),O J x.car]) w):=by
 have HB0:=ze (Bs.two w [O J x.id,O J x.frm,O J x.to_,O J x.car] [O J 0,O J 0,O J 0] 318 360);have HD:=ze (fun V=>qn x.frm x.to_ V (by omega) (by omega));generalize yw (x.to_-x.frm)=d at HD⊢;go_enter func224,ntmps224;go_wp2_with fail;refine j9 (w:=w) (fun W=>Bs w W [(w.heap.size+1,[O J 0,O J 0,O J 0]),(w.heap.size,[O J x.id,O J x.frm,O J x.to_,O J x.car])]) HB0.o (by go_grown) (by simp;omega) ?_;rintro W hb hbW hzW;clear HB0 hbW hzW;have HB:=ze (hb.sub (M:=[(w.heap.size,[O J x.id,O J x.frm,O J x.to_,O J x.car])]) (by simp));obtain⟨⟨d0,d1,d2⟩,g0,g1,g2⟩:=(hb.cell (q:=w.heap.size+1) (l:=[O J 0,O J 0,O J 0]) (by simp)).o3;clear hb;have MK:=ze (fun(W:World)(h:Bs w W [(w.heap.size,[O J x.id,O J x.frm,O J x.to_,O J x.car])])=>(show Bs w W [(w.heap.size,[O J x.id,O J x.frm,O J x.to_,O J x.car])]/\W.cell? ⟨w.heap.size,1,none⟩=some (O J x.frm)/\W.cell? ⟨w.heap.size,2,none⟩=some (O J x.to_)/\W.cell? ⟨w.heap.size,3,none⟩=some (O J x.car)from⟨h,((h.cell (q:=w.heap.size) (l:=[O J x.id,O J x.frm,O J x.to_,O J x.car]) (by simp)) 1 _ rfl).1,((h.cell (q:=w.heap.size) (l:=[O J x.id,O J x.frm,O J x.to_,O J x.car]) (by simp)) 2 _ rfl).1,((h.cell (q:=w.heap.size) (l:=[O J x.id,O J x.frm,O J x.to_,O J x.car]) (by simp)) 3 _ rfl).1⟩))
 go_region_held3 (fun W=>Bs w W [(w.heap.size,[O J x.id,O J x.frm,O J x.to_,O J x.car])]/\W.cell? ⟨w.heap.size,1,none⟩=some (O J x.frm)/\W.cell? ⟨w.heap.size,2,none⟩=some (O J x.to_)/\W.cell? ⟨w.heap.size,3,none⟩=some (O J x.car))
  (first|(with_reducible exact MK.o _ HBX.o)|(with_reducible exact MK.o _ (Bs.setO3 HB.o (Nat.le_succ _) (by simp) _ _ _).drew)|(with_reducible exact MK.o _ HB.o.drew))
  (first
   |(go_at_call 188;go_split_ands;(with_reducible refine(HD.o _).mono ?_);rintro r wX ⟨rfl,rfl⟩;have HBX:=ze (show Bs w _ [(w.heap.size,[O J x.id,O J x.frm,O J x.to_,O J x.car])]from by assumption)))
 all_goals
  go_split_ands;have HBF:=ze (show Bs w _ [(w.heap.size,[O J x.id,O J x.frm,O J x.to_,O J x.car])]from by assumption);go_wp2_with fail;refine bodyPost_ret (v:=.agg #[O J x.frm,O J d,O J x.car]) (by rw[zi rfl];go_simp) rfl ?_;exact⟨rfl,HBF.o.b⟩
theorem Hl.comeMap{w w1 w2:World}{h nw:Nat}{S:HS}{k:HK}{s':Sl}{l:List Wt}(H:Hl w h S)(hb:But (fun q=>∃ s0,S.fw k=some s0/\s0.blk q) w w1)(hr:Wrow w1 s' l)(hnew:∀ q,s'.blk q->(∃s0,S.fw k=some s0/\s0.blk q)\/w.heap.size<=q)
  (hg:w1.grownBy w2 S.mw)(hm:Mv hallK Sl.v w2 S.mw nw (vt S.fw k (some s')))(hwf:hallK.wf k):HNext w h S w2 (S.at_ S.mw nw k (some s') l):=by
 have hb2:But (fun q=>S.mw=some q) w1 w2:=But.of_grown hg fun q hq=>hq
 have hbb:But (fun q=>S.mw=some q\/∃ s0,S.fw k=some s0/\s0.blk q) w w2:=(hb.mono (Y:=fun q=>S.mw=some q\/∃ s0,S.fw k=some s0/\s0.blk q) fun _ _ h=>.inr h).trans hb2 (fun _ _ h=>.inl h);have hxh:∀ q,(S.mw=some q\/∃ s0,S.fw k=some s0/\s0.blk q)->Xh S h q:=fun q hq=>by
  rcases hq with hq|⟨s0,h1,h2⟩
  ·exact .inr (.inl hq)
  ·exact .inr (.inr (.inr ⟨k,s0,h1,h2⟩))
 have hh:w2.heap[h]?=w.heap[h]?:=hbb.block h (H.xlt (.inl rfl)) (by
  rintro(e|⟨s0,h1,h2⟩)
  ·exact H.ne1 e
  ·exact(H.off k s0 h h1 h2).1 rfl)
 have g:=fun o=>World.cell?_of_block (a:=⟨h,o,none⟩) hh
 have gf:=fun o=>World.frozen?_of_block (a:=⟨h,o,none⟩) hh
 obtain⟨n,hn2⟩:=H.c2;have hrlt:∀ b,s'.blk b->b<w1.heap.size:=fun b hsb=>hr.lt hsb
 have hmwlt:∀ b,S.mw=some b->b<w.heap.size:=fun b hb=>H.xlt (.inr (.inl hb))
 have hs'mw:∀ b,s'.blk b->S.mw≠some b/\S.mc≠some b/\b≠h:=fun b hsb=>by
  rcases hnew b hsb with⟨s0,h1,h2⟩|h1
  ·exact⟨(H.off k s0 b h1 h2).2.1,(H.off k s0 b h1 h2).2.2,(H.off k s0 b h1 h2).1⟩
  ·refine⟨fun e=>?_,fun e=>?_,fun e=>?_⟩
   ·have:=H.xlt (.inr (.inl e));omega
   ·have:=H.xlt (.inr (.inr (.inl e)));omega
   ·have:=H.xlt (.inl e);omega
 refine⟨⟨(g 0).trans H.c0,(g 1).trans H.c1,⟨n,(g 2).trans hn2⟩,(gf 0).trans H.f0,(gf 1).trans H.f1,(gf 2).trans H.f2,hm,H.m2.but hbb (fun b hm2 e=>by
   rcases e with e|⟨s0,h1,h2⟩
   ·exact H.ne3 b e hm2
   ·exact(H.off k s0 b h1 h2).2.2 hm2),H.ne1,H.ne2,H.ne3,fun k' s hk=>?_,fun k' hk=>?_,fun k1 k2 s1 s2 b h1 h2 b1 b2=>?_,fun k' s b hk hsb=>?_⟩,hbb.mono fun q _ hq=>hxh q hq,fun q hq hx=>?_⟩
 ·by_cases e:k'=k
  ·subst e;have hk':vt S.fw k' (some s') k'=some s:=hk;rw[zK]at hk';injection hk' with hk';subst hk';refine⟨hwf,?_⟩
   show Wrow w2 s' (qf S.L k' l k')
   rw[jp];exact hr.keep hb2.size fun b hsb=>hb2.block b (hrlt b hsb) (hs'mw b hsb).1
  ·have hk':vt S.fw k (some s') k'=some s:=hk;rw[zv _ _ e]at hk';refine⟨(H.row k' s hk').1,?_⟩
   show Wrow w2 s (qf S.L k l k')
   rw[zU _ _ e];exact(H.row k' s hk').2.keep hbb.size fun b hsb=>hbb.block b (H.xlt (.inr (.inr (.inr ⟨k',s,hk',hsb⟩)))) (by
    rintro(e2|⟨s0,h1,h2⟩)
    ·exact(H.off k' s b hk' hsb).2.1 e2
    ·exact e (H.sep k' k s s0 b hk' h1 hsb h2))
 ·by_cases e:k'=k
  ·subst e;have hk':vt S.fw k' (some s') k'=none:=hk;rw[zK]at hk';cases hk'
  ·have hk':vt S.fw k (some s') k'=none:=hk;rw[zv _ _ e]at hk'
   show qf S.L k l k'=[]
   rw[zU _ _ e];exact H.non k' hk'
 ·have h1':vt S.fw k (some s') k1=some s1:=h1;have h2':vt S.fw k (some s') k2=some s2:=h2;by_cases e1:k1=k
  ·by_cases e2:k2=k
   ·rw[e1,e2]
   ·subst e1;rw[zK]at h1';rw[zv _ _ e2]at h2';injection h1' with h1';subst h1';rcases hnew b b1 with⟨s0,q1,q2⟩|q1
    ·exact H.sep _ _ s0 s2 b q1 h2' q2 b2
    ·have:=H.xlt (.inr (.inr (.inr ⟨k2,s2,h2',b2⟩)));omega
  ·by_cases e2:k2=k
   ·subst e2;rw[zK]at h2';rw[zv _ _ e1]at h1';injection h2' with h2';subst h2';rcases hnew b b2 with⟨s0,q1,q2⟩|q1
    ·exact H.sep _ _ s1 s0 b h1' q1 b1 q2
    ·have:=H.xlt (.inr (.inr (.inr ⟨k1,s1,h1',b1⟩)));omega
   ·rw[zv _ _ e1]at h1';rw[zv _ _ e2]at h2';exact H.sep k1 k2 s1 s2 b h1' h2' b1 b2
 ·have hk':vt S.fw k (some s') k'=some s:=hk;by_cases e:k'=k
  ·subst e;rw[zK]at hk';injection hk' with hk';subst hk';exact⟨(hs'mw b hsb).2.2,(hs'mw b hsb).1,(hs'mw b hsb).2.1⟩
  ·rw[zv _ _ e]at hk';exact H.off k' s b hk' hsb
 ·rcases hx with hx|hx|hx|⟨k',s,hk,hsb⟩
  ·exact .inl hx
  ·exact .inr (.inl hx)
  ·exact .inr (.inr (.inl hx))
  ·have hk':vt S.fw k (some s') k'=some s:=hk;by_cases e:k'=k
   ·subst e;rw[zK]at hk';injection hk' with hk';subst hk';rcases hnew q hsb with⟨s0,h1,h2⟩|h1
    ·exact .inr (.inr (.inr ⟨k',s0,h1,h2⟩))
    ·omega
   ·rw[zv _ _ e]at hk';exact .inr (.inr (.inr ⟨k',s,hk',hsb⟩))
def HS.waits(S:HS)(mw:Option Nat)(nw:Nat)(fw:HK->Option Sl):HS:={S with mw:=mw,nw:=nw,fw:=fw}
theorem Hl.waitMade{w:World}{h:Nat}{S:HS}(H:Hl w h S)(hn:S.mw=none):HNext w h S ((w.setCell ⟨h,0,none⟩ (.map (some w.heap.size))).alloc (.map #[] 0)) (S.waits (some w.heap.size) 0 (fun _=>none))/\S.fw=fun _=>none:=by
 have hfn:S.fw=fun _=>none:=by
  have:=H.m1;rw[hn]at this;rcases this with⟨-,h2⟩|⟨b,D,h2,-⟩
  ·funext x;exact h2 x
  ·cases h2
 have hlt:=H.xlt (.inl rfl);have hsw:(w.alloc (.map #[] 0)).setCell ⟨h,0,none⟩ (.map (some w.heap.size))=(w.setCell ⟨h,0,none⟩ (.map (some w.heap.size))).alloc (.map #[] 0):=by
  unfold World.setCell World.alloc;simp only
  congr 1
  apply Array.ext
  ·simp
  ·intro j h1 h2;simp only[Array.getElem_modify,Array.getElem_push,Array.size_modify];by_cases hj:j<w.heap.size
   ·simp[hj]
   ·have:¬ h=j:=by omega
    simp[hj,this]
 rw[<-hsw];have hb:=(Below.refl w.heap.size w).alloc fi (.map #[] 0);have H1:=H.below hb;have hbx:But (fun k=>k=h) w ((w.alloc (.map #[] 0)).setCell ⟨h,0,none⟩ (.map (some w.heap.size))):=(But.of_below (X:=fun k=>k=h) hb).set (a:=⟨h,0,none⟩) (.inl rfl) _;have hmade:=Mv.made hallK Sl.v w;have hne:w.heap.size≠h:=by omega
 obtain⟨n,hn2⟩:=H1.c2;refine⟨⟨⟨World.cell?_setCell_same _ _ _ H1.c0,?_,⟨n,?_⟩,by rw[World.frozen?_setCell];exact H1.f0,by rw[World.frozen?_setCell];exact H1.f1,by rw[World.frozen?_setCell];exact H1.f2,?_,H.m2.but hbx (fun b hm e=>H.ne2 (e▸hm)),fun e=>hne (Option.some.inj e),H.ne2,fun b hm e=>?_,fun k s hk=>(by cases hk),fun k _=>H.non k (by rw[hfn]),fun k k' s s' b hk=>(by cases hk),fun k s b hk=>(by cases hk)⟩,hbx.mono fun k _ hk=>.inl hk,fun k hk hx=>?_⟩,hfn⟩
 ·rw[World.cell?_setCell_other _ _ _ _ (by intro e;injection e with _ e _;exact absurd e (by decide))];exact H1.c1
 ·rw[World.cell?_setCell_other _ _ _ _ (by intro e;injection e with _ e _;exact absurd e (by decide))];exact hn2
 ·refine hmade.but (X:=fun k=>k=h) ((But.refl (fun k=>k=h) _).set (a:=⟨h,0,none⟩) (.inl rfl) _) (fun b hb e=>?_);injection hb with hb;omega
 ·have:=H.m2.lt e;injection hm with hm;omega
 ·rcases hx with hx|hx|hx|⟨_,_,hx,_⟩
  ·exact .inl hx
  ·injection hx with hx;omega
  ·exact .inr (.inr (.inl hx))
  ·cases hx
def GH(w:World)(h:Nat)(S:HS)(k:HK)(x:Wt)(w':World):Prop:=∃ S',HNext w h S w' S'/\S'.L=qf S.L k (S.L k++[x])/\S'.nw<=S.nw+1/\S'.nc=S.nc
def Zb(w0 V:World)(a b:Nat):Prop:=V.heap[a]?=w0.heap[a]?/\V.heap[b]?=w0.heap[b]?/\w0.heap.size<=V.heap.size
theorem Zb.of{w0 V:World}{a b:Nat}(hb:fj w0 V)(ha:a<w0.heap.size)(hb':b<w0.heap.size):Zb w0 V a b:=⟨hb.block a ha,hb.block b hb',hb.size⟩
theorem Zb.al{w0 V:World}{a b:Nat}(h:Zb w0 V a b)(ha:a<w0.heap.size)(hb:b<w0.heap.size)(o:Obj):Zb w0 (V.alloc o) a b:=by
 have hs:=h.2.2;have hal:=(Below.refl V.heap.size V).alloc fi o;exact⟨(hal.block a (by omega)).trans h.1,(hal.block b (by omega)).trans h.2.1,by simp;omega⟩
theorem Zb.but{w0 V W:World}{a b:Nat}{X:Nat->Prop}(h:Zb w0 V a b)(ha:a<w0.heap.size)(hb:b<w0.heap.size)(hx:But X V W)(na:¬ X a)(nb:¬ X b):Zb w0 W a b:=by
 have hs:=h.2.2;exact⟨(hx.block a (by omega) na).trans h.1,(hx.block b (by omega) nb).trans h.2.1,Nat.le_trans hs hx.size⟩
theorem GI{w wc V w':World}{h bm nw n c c':Nat}{S:HS}{k:HK}{x:Wt}{A A':Option Addr}(HN0:HNext w h S wc (S.waits (some bm) nw S.fw))(hnw:nw<=S.nw)(hnw2:S.nw<=1000000)(hk:hallK.wf k)(hsl:(S.fw k).getD ⟨none,0,0⟩=⟨A,n,c⟩)
  (hV:fj wc V)(hw':Wrow w' ⟨A',n+1,c'⟩ (S.L k++[x]))(hb':But (Sl.blk ⟨A,n,c⟩) V w')(hnew:∀ q,Sl.blk ⟨A',n+1,c'⟩ q->Sl.blk ⟨A,n,c⟩ q\/V.heap.size<=q):
  ∃w6,(Instr.mapUpdate 303 (.map (some bm)) (.agg #[O J k.1,O J k.2.1,O J k.2.2]) (.slice A' (n+1) c')).run prog w'=.ok () w6/\GH w h S k x w6/\But (Xh (S.waits (some bm) nw S.fw) h) V w6/\(∀q,Sl.blk ⟨A,n,c⟩ q->Xh (S.waits (some bm) nw S.fw) h q/\q≠h)/\But (fun q=>q=bm) w' w6:=by
 have HV:=HN0.hl.below hV;have hblk:∀ q,Sl.blk ⟨A,n,c⟩ q->∃ s0,S.fw k=some s0/\s0.blk q:=fun q hq=>by
  cases hf:S.fw k with
  |none=>rw[hf]at hsl;simp only[Option.getD_none]at hsl;injection hsl with e1 e2 e3;subst e1;obtain⟨o,ho⟩:=hq;cases ho
  |some s0=>rw[hf]at hsl;simp only[Option.getD_some]at hsl;exact⟨s0,rfl,hsl▸hq⟩
 have hm:Mv hallK Sl.v w' (some bm) nw S.fw:=HV.m1.but hb' (fun b hb e=>by
  obtain⟨s0,h1,h2⟩:=hblk b e;exact(HV.off k s0 b h1 h2).2.1 hb)
 obtain⟨w6,hrun,hm6,hg6⟩:=hm.store (T:=303) (E:=358) underlying303 (show nw<maxLen from by simp only[maxLen];omega) (x:=k) hk ⟨A',n+1,c'⟩;have HF:=HV.comeMap (k:=k) (s':=⟨A',n+1,c'⟩) (l:=S.L k++[x]) (hb'.mono fun q _ hq=>hblk q hq) hw' (fun q hq=>(hnew q hq).imp (hblk q) id) hg6 hm6 hk;refine⟨w6,hrun,⟨_,(HN0.trans (HNext.refl HN0.hl hV)).trans HF,rfl,by show nw+1<=S.nw+1;omega,rfl⟩,HF.but,fun q hq=>?_,But.of_grown hg6 fun q hq=>(Option.some.inj hq).symm⟩;obtain⟨s0,h1,h2⟩:=hblk q hq;exact⟨.inr (.inr (.inr ⟨k,s0,h1,h2⟩)),(HV.off k s0 q h1 h2).1⟩
theorem Ju(h:Nat)(S:HS)(x:Wt)(w:World)(H:Hl w h S)(h0: -1000000<=x.frm)(h1:x.frm<=1000000)(h2: -1000000<=x.to_)(h3:x.to_<=1000000)(h4: -1000000000<=x.car)(h5:x.car<=1000000000)(hnw:S.nw<=1000000)(hl:∀ k,(S.L k).length<=1000000):
  Calls prog 187 #[.pointer (some ⟨h,0,none⟩),x.v] w fun e w'=>e=.returned (.tuple #[])/\GH w h S (x.frm,yw (x.to_-x.frm),x.car) x w':=by
 have HB:=ze (Bs.one w [O J x.id,O J x.frm,O J x.to_,O J x.car] 318);have HOF:=ze (fun V=>GG x V h0 h1 h2 h3);have hkk:hallK.wf (x.frm,yw (x.to_-x.frm),x.car):=⟨zQ (by omega) (by omega),by rcases ZX (x.to_-x.frm)with e|e|e<;>(show jX (yw _);rw[e];exact zQ (by omega) (by omega)),zQ h4 h5⟩;generalize yw (x.to_-x.frm)=d at HOF hkk⊢;have HK:=ze hkk;have HC:=ze H;clear H h0 h1 h2 h3 h4 h5 hkk;have hnil:=fun(W:World)(r:Option Nat)=>run_eql_map_nil (P:=prog) W _ _ _ r underlying303
 have hmm:= @run_makeMap prog;have hlt:=HC.o.xlt (.inl rfl);go_enter func187,ntmps187;go_upto_region 1 with(fail);refine zq (w:=w) (fun V=>Bs w V [(w.heap.size,[O J x.id,O J x.frm,O J x.to_,O J x.car])]) HB.o HB.o.b ?_;rintro V hv hbV;have HV:=ze hv;have HX:=ze (HC.o.below hbV);have c0:=HX.o.c0;have f0:=HX.o.f0;have hltV:=HX.o.xlt (.inl rfl);clear hv hbV HB
 go_upto_if 8 with(fail)
 go_cut [] (fun wx=>∃ bm nw,HNext V h S wx (S.waits (some bm) nw S.fw)/\nw<=S.nw)
 case first=>
  cases hmc:S.mw with
  |none=>
   obtain⟨hm1,hm2⟩:=HX.o.waitMade hmc;have HM:=ze hm1;have HM2:=ze hm2;rw[hmc]at c0;clear hmc hm1 hm2;go_wp2_with fail
   go_meet
   exact⟨_,0,by rw[HM2.o];exact HM.o,Nat.zero_le _⟩
  |some bm=>
   have HM:=ze (show HNext V h S V (S.waits (some bm) S.nw S.fw)from hmc▸HNext.refl HX.o fh);rw[hmc]at c0;clear hmc;go_wp2_with fail
   go_meet
   exact⟨bm,S.nw,HM.o,fi⟩
 case rest=>
  obtain⟨bm,nw,hn,hle⟩:=hcut;have HN0:=ze ((HNext.refl HC.o HV.o.b).trans hn);have HLE:=ze hle;have hbx:=(HV.o.but hn.but (fun q hq=>HC.o.xlt hq)) (w.heap.size,[O J x.id,O J x.frm,O J x.to_,O J x.car]) (by simp);have HBX:=ze hbx.2.2;have hlx:=hbx.2.1;have hlth:=hn.hl.xlt (.inl rfl);have c1:wc.cell? ⟨h,0,none⟩=some (.map (some bm)):=hn.hl.c0;obtain⟨⟨e0,e1,e2,e3⟩,-⟩:=hbx.2.2.o4;generalize hsl:(S.fw (x.frm,d,x.car)).getD ⟨none,0,0⟩=sl;have hrow:Wrow wc sl (S.L (x.frm,d,x.car)):=by
   cases hf:S.fw (x.frm,d,x.car)with
   |none=>rw[hf]at hsl;simp only[Option.getD_none]at hsl;subst hsl;rw[HC.o.non _ hf];exact⟨rfl,fi,.inl ⟨rfl,rfl⟩⟩
   |some s0=>rw[hf]at hsl;simp only[Option.getD_some]at hsl;subst hsl;exact(hn.hl.row _ _ hf).2
  obtain⟨A,n,c⟩:=sl;have HSL:=ze hsl;have HLN:=ze (hl (x.frm,d,x.car));have HLK:=ze (fun V(hb:fj wc V)=>(show(Instr.lookup 303 (.map (some bm)) (.agg #[O J x.frm,O J d,O J x.car]) false).run prog V=.ok (.slice A n c) V from by
   have:=(hn.hl.below hb).lookw HK.o;have e:((S.waits (some bm) nw S.fw).fw (x.frm,d,x.car)).getD ⟨none,0,0⟩=⟨A,n,c⟩:=hsl;rw[e]at this;exact this))
  have HRW:=ze (fun V(hb:fj wc V)=>(show Wrow V ⟨A,n,c⟩ (S.L (x.frm,d,x.car))from hrow.keep hb.size fun b hbl=>hb.block b (hrow.lt hbl)));have HFIN:=ze (fun V w'(A':Option Addr)(c':Nat)(hV:fj wc V) hw'(hb':But (Sl.blk ⟨A,n,c⟩) V w') hnew=>(show∃w6,(Instr.mapUpdate 303 (.map (some bm)) (.agg #[O J x.frm,O J d,O J x.car]) (.slice A' (n+1) c')).run prog w'=.ok () w6/\GH w h S (x.frm,d,x.car) x w6/\But (Xh (S.waits (some bm) nw S.fw) h) V w6/\(∀q,Sl.blk ⟨A,n,c⟩ q->Xh (S.waits (some bm) nw S.fw) h q/\q≠h)/\But (fun q=>q=bm) w' w6 from GI (x:=x) (A':=A') (c':=c') HN0.o hle hnw HK.o hsl hV hw' hb' hnew));have hnx:¬ Xh (S.waits (some bm) nw S.fw) h w.heap.size:=fun hx=>by
   have:=HC.o.xlt (hn.x _ (HV.o.lt (q:=w.heap.size) (l:=[O J x.id,O J x.frm,O J x.to_,O J x.car]) (by simp)) hx);omega
  have hbh:bm≠h:=fun e=>hn.hl.ne1 (by rw[<-e];rfl)
  have hbx2:bm≠w.heap.size:=fun e=>hnx (.inr (.inl (by rw[<-e];rfl)))
  have HNX:=ze hnx;have HBH:=ze hbh;have HBX2:=ze hbx2;have MK:=ze (fun V(hz:Zb wc V h w.heap.size)=>(show V.cell? ⟨h,0,none⟩=some (.map (some bm))/\V.cell? ⟨w.heap.size,0,none⟩=some (O J x.id)/\V.cell? ⟨w.heap.size,1,none⟩=some (O J x.frm)/\V.cell? ⟨w.heap.size,2,none⟩=some (O J x.to_)/\V.cell? ⟨w.heap.size,3,none⟩=some (O J x.car)from
   ⟨(World.cell?_of_block (a:=⟨h,0,none⟩) hz.1).trans c1,(World.cell?_of_block (a:=⟨w.heap.size,0,none⟩) hz.2.1).trans e0,(World.cell?_of_block (a:=⟨w.heap.size,1,none⟩) hz.2.1).trans e1,(World.cell?_of_block (a:=⟨w.heap.size,2,none⟩) hz.2.1).trans e2,(World.cell?_of_block (a:=⟨w.heap.size,3,none⟩) hz.2.1).trans e3⟩))
  have HZ0:=ze (Zb.of (Below.refl wc.heap.size wc).drew hlth hlx);have HZ0A:=ze (fun o=>Zb.of (V:=(wc.alloc o).drew) ((Below.refl wc.heap.size wc).alloc fi o).drew hlth hlx);have HLT:=ze hlth;have HLX:=ze hlx;clear hn hle hbx hsl hrow hnil hmm hl hnx hbh hbx2;go_wp2_with fail
  go_region_held3 (fun V=>V.cell? ⟨h,0,none⟩=some (.map (some bm))/\V.cell? ⟨w.heap.size,0,none⟩=some (O J x.id)/\V.cell? ⟨w.heap.size,1,none⟩=some (O J x.frm)/\V.cell? ⟨w.heap.size,2,none⟩=some (O J x.to_)/\V.cell? ⟨w.heap.size,3,none⟩=some (O J x.car))
   (first|(with_reducible exact MK.o _ HZ6.o)|(with_reducible exact MK.o _ HZ.o)|(with_reducible exact MK.o _ (Zb.al HZ.o HLT.o HLX.o _))|(with_reducible exact MK.o _ HZ0.o)|(with_reducible exact MK.o _ (HZ0A.o _)))
   (first
   |(refine dB rfl _ _ rfl A n c rfl (HRW.o _ (by first|exact HBb.o|(go_grown;exact HBb.o))) x _ _ rfl (by first|exact(fun j u hu=>(HQ.o j u hu).1)|exact(fun j u hu=>(Bx.new _ _ _ j u hu).1)) HLN.o ?_;intro A' c' w' hw' hb' hn';obtain⟨w6,hrun6,hcp,hb6,hq6,hb7⟩:=HFIN.o _ _ A' c' (by first|exact HBb.o|(go_grown;exact HBb.o)) hw' hb' hn';have HZp:=ze ((show Zb wc _ h w.heap.size from Zb.of (by first|exact HBb.o|(go_grown;exact HBb.o)) HLT.o HLX.o).but HLT.o HLX.o hb' (fun hx=>(hq6 _ hx).2 rfl) (fun hx=>HNX.o (hq6 _ hx).1));clear HZ;have HZ:=ze HZp.o;have HZ6:=ze (HZp.o.but HLT.o HLX.o hb7 (fun e=>HBH.o e.symm) (fun e=>HBX2.o e.symm));have HCP:=ze hcp;clear hw' hb' hn' hcp hb6 hq6 hb7 HZp)
   |(go_at_call 224;have _t:=HBa;go_split_ands;refine(HOF.o _).mono ?_;rintro e wb ⟨rfl,hbb⟩;have HBb:=ze ((show fj wc _ from by first|exact HBa.o|(go_grown;exact HBa.o)).trans (hbb.mono (by first|(simp;done)|(simp;omega)|omega)));clear HZ;have HZ:=ze (Zb.of HBb.o HLT.o HLX.o);have hzb:=HBb.o.size;have hlk:=HLK.o _ HBb.o;have hlk2:=fun o=>HLK.o _ (HBb.o.alloc HBb.o.size o);(first|(have HQb:=ze (HQ.o.below hbb (HQ.o.lt (by simp)));clear HQ;have HQ:=ze HQb.o;clear HQb)|(have HQ:=ze ((Bx.new wa (ZY x) 318).below hbb (by simp)))|skip);clear hbb)
   |(go_at_call 224;go_split_ands;refine(HOF.o _).mono ?_;rintro e wa ⟨rfl,hba⟩;have HBa:=ze ((show fj wc _ from by go_grown).trans (hba.mono (by first|(simp;done)|(simp;omega)|omega)));have HZ:=ze (Zb.of HBa.o HLT.o HLX.o);have hza:=HBa.o.size;(first|(have HQ:=ze ((Bx.new wc (ZY x) 318).drew.below hba (by simp)))|(have HQ:=ze ((Bx.new wc (ZY x) 318).below hba (by simp)))|skip);clear hba))
  all_goals
   go_wp2_with fail;go_end0;exact⟨rfl,HCP.o⟩
end
end Go.Proofs.YtdeogmbfgkepeaaGreatDoor
