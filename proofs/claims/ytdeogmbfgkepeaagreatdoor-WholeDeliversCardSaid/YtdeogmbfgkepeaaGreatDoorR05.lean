/- Contracts for WholeDelivers. -/
import Derived.Below
import Derived.Orders
set_option linter.unusedVariables false
set_option linter.unusedSimpArgs false
set_option maxRecDepth 100000
set_option maxHeartbeats 64000000
namespace Go.Proofs.YtdeogmbfgkepeaaGreatDoor
section
open Go Go.RowKit
section
variable{P:Program}{ops:Array Oper}{md:Region.Mode}{Q:Exit->Act->World->Prop}
structure Hold(ops:Array Oper)(m:Nat)(a0:Act)(w0:World)(S:Nat->Value->World->Prop)(listed:Array Bool)(a:Act)(w:World):Prop where
 bel:Below w0.heap.size w0 w
 siz:a.tmps.size=a0.tmps.size
 dfr:a.defers=a0.defers
 old:∀ s,(∀(i:Nat)(o:Oper),i<m->ops[i]?=some o->o.dst≠some s)->a.tmps.getD s undef=a0.tmps.getD s undef
 new:∀(i:Nat)(o:Oper)(d:Tmp),ops[i]?=some o->o.dst=some d->listed.getD i false=true->S i (a.tmps.getD d undef) w
def Yj(ops:Array Oper)(m:Nat)(s:Nat):Bool:=(ops.toList.take m).all fun o=>decide (o.dst≠some s)
def xY(md:Region.Mode)(o:Oper)(j:Nat):Bool:=o.after.any fun e=>Region.binds md e&&e.on==j
def Qf(P:Program)(ops:Array Oper)(m:Nat)(md:Region.Mode)(Q:Exit->Act->World->Prop)(a0:Act)(w0:World)(S:Nat->Value->World->Prop)(i:Nat)(o:Oper):Prop:=
 ∀a w,Below w0.heap.size w0 w->(∀s,Yj ops m s=true->a.tmps.getD s undef=a0.tmps.getD s undef)->
  (∀(j:Nat)(o':Oper)(d:Tmp),xY md o j=true->ops[j]?=some o'->o'.dst=some d->S j (a.tmps.getD d undef) w)->
  o.wp P a w (fun a' w'=>Below w.heap.size w w'/\∃ v,a'=a.put o.dst v/\S i v w') Q
def Jf(P:Program)(ops:Array Oper)(m:Nat)(md:Region.Mode)(Q:Exit->Act->World->Prop)(a0:Act)(w0:World)(S:Nat->Value->World->Prop):List Oper->Nat->Prop
 |[],_=>True
 |o::l,k=>Qf P ops m md Q a0 w0 S k o/\Jf P ops m md Q a0 w0 S l (k+1)
theorem uW{m:Nat}{a0:Act}{w0:World}{S:Nat->Value->World->Prop}:∀(l:List Oper)(k:Nat),Jf P ops m md Q a0 w0 S l k->∀ i o,l[i]?=some o->Qf P ops m md Q a0 w0 S (k+i) o
 |[],_,_,i,o,h=>by simp at h
 |x::l,k,hs,0,o,h=>by
  simp at h;subst h;exact hs.1
 |x::l,k,hs,i+1,o,h=>by
  have:=uW l (k+1) hs.2 i o (by simpa using h);rw[show k+(i+1)=k+1+i by omega];exact this
theorem zn{m s:Nat}(h:Yj ops m s=true):∀(i:Nat)(o:Oper),i<m->ops[i]?=some o->o.dst≠some s:=by
 intro i o h0 hi;unfold Yj at h;rw[List.all_eq_true]at h;simpa using h o (by
  apply List.mem_of_getElem? (i:=i);rw[List.getElem?_take,if_pos h0];simpa using hi)
def uX(md:Region.Mode)(ops:Array Oper)(m n:Nat):Bool:=
 ops.toList.zipIdx.all fun x=>x.1.after.all (fun e=>!Region.binds md e||decide (e.on<x.2))&&(decide (m<=x.2)||(x.1.guard.isNone&&(match x.1.dst with|some d=>decide (d<n)|none=>false)&&
  ops.toList.zipIdx.all (fun y=>decide (x.2=y.2)||decide (x.1.dst≠y.1.dst))))
theorem Qg{i:Nat}{o:Oper}(hj:ops[i]?=some o):(o,i)∈ops.toList.zipIdx:=by
 rw[List.mem_zipIdx_iff_getElem?];simpa using hj
theorem uY{m n:Nat}(h:uX md ops m n=true){i:Nat}{o:Oper}(hi:ops[i]?=some o):∀ e∈o.after,Region.binds md e=true->e.on<i:=by
 intro x hx hb;unfold uX at h;rw[List.all_eq_true]at h;have h1:=h _ (Qg hi);simp only[Bool.and_eq_true]at h1;have:=Array.all_eq_true_iff_forall_mem.1 h1.1 x hx;rw[hb]at this;simpa using this
theorem Qh{m n:Nat}(h:uX md ops m n=true){i:Nat}{o:Oper}(hi:ops[i]?=some o)(him:i<m):
  o.guard=none/\(∃d,o.dst=some d/\d<n)/\∀(j:Nat)(o':Oper),ops[j]?=some o'->i≠j->o.dst≠o'.dst:=by
 unfold uX at h;rw[List.all_eq_true]at h;have h1:=h _ (Qg hi);simp only[Bool.and_eq_true,Bool.or_eq_true,decide_eq_true_eq,Option.isNone_iff_eq_none]at h1;obtain⟨⟨g,d⟩,f⟩:=h1.2.resolve_left (by omega);refine⟨g,?_,fun j o' hj h0=>?_⟩
 ·cases hd:o.dst with
  |none=>rw[hd]at d;simp at d
  |some d'=>rw[hd]at d;exact⟨d',rfl,by simpa using d⟩
 ·rw[List.all_eq_true]at f;have:=f _ (Qg hj);simp only[Bool.or_eq_true,decide_eq_true_eq]at this;exact this.resolve_left h0
theorem kv{listed:Array Bool}{i:Nat}(h:listed.getD i true=false):(listed.setIfInBounds i true).toList.count false+1=listed.toList.count false:=by
 have hi:i<listed.size:=by
  by_cases hi:i<listed.size
  ·exact hi
  ·rw[Array.getD_eq_getD_getElem?,Array.getElem?_eq_none (by omega)]at h;simp at h
 have hv:listed.toList[i]'(by simpa using hi)=false:=by
  rw[Array.getD_eq_getD_getElem?,Array.getElem?_eq_getElem hi]at h;simpa using h
 rw[Array.toList_setIfInBounds,List.count_set (by simpa using hi),hv];have:0<listed.toList.count false:=List.count_pos_iff.2 (by rw[<-hv];exact List.getElem_mem _);have e1:((false:Bool)==false)=true:=rfl;have e2:((true:Bool)==false)=false:=rfl;rw[e1,e2,if_pos rfl,if_neg (by decide)];omega
theorem vK{m n:Nat}(h:uX md ops m n=true){listed:Array Bool}(hl:listed.size=ops.size)(hr:Region.ready md ops listed=[]):∀ i,i<ops.size->listed.getD i false=true:=by
 intro i
 induction i using Nat.strongRecOn with
 |_ i ih=>
  intro hi;have ho:ops[i]?=some ops[i]:=Array.getElem?_eq_getElem hi;rcases hv:listed.getD i true with _|_
  ·exfalso;have:i∈Region.ready md ops listed:=mem_ready.2 ⟨hv,_,ho,fun e he hb=>ih e.on (uY h ho e he hb) (by have:=uY h ho e he hb;omega)⟩;rw[hr]at this;cases this
  ·rw[Array.getD_eq_getD_getElem?,Array.getElem?_eq_getElem (by omega)]at hv⊢;simpa using hv
theorem Xi{a0:Act}{w0:World}{S:Nat->Value->World->Prop}(hB:uX md ops ops.size a0.tmps.size=true)
  (hp:∀ i v w w',S i v w->Below w.heap.size w w'->S i v w')(hs:Jf P ops ops.size md Q a0 w0 S ops.toList 0)
  (hf:∀ a w,Hold ops ops.size a0 w0 S (Array.replicate ops.size true) a w->Q .normal a w):
  ∀(fuel:Nat)(listed:Array Bool)(a:Act)(w:World),listed.size=ops.size->listed.toList.count false<=fuel->Hold ops ops.size a0 w0 S listed a w->wpAny P md ops Q fuel listed a w:=by
 have h4:∀(listed:Array Bool) a w,listed.size=ops.size->Hold ops ops.size a0 w0 S listed a w->(∀i,i<ops.size->listed.getD i false=true)->Q .normal a w:=fun listed a w hl hh ha=>
  hf a w ⟨hh.bel,hh.siz,hh.dfr,hh.old,fun i o d hi hd _=>hh.new i o d hi hd (ha i (by
   by_cases h:i<ops.size
   ·exact h
   ·rw[Array.getElem?_eq_none (by omega)]at hi;cases hi))⟩
 intro fuel
 induction fuel with
 |zero=>
  intro listed a w hl hc hh;have ha:∀ i,i<ops.size->listed.getD i false=true:=fun i hi=>by
   have h0:listed.toList.count false=0:=by omega
   rw[List.count_eq_zero]at h0;rw[Array.getD_eq_getD_getElem?,Array.getElem?_eq_getElem (by omega)];rcases hv:listed[i]'(by omega)with _|_
   ·exact absurd (by rw[<-hv];exact Array.getElem_mem_toList _) h0
   ·simp
  refine⟨?_,h4 listed a w hl hh ha⟩;apply List.eq_nil_iff_forall_not_mem.2;intro i hi;obtain⟨h1,o,ho,-⟩:=mem_ready.1 hi;have h6:i<ops.size:=by
   by_cases h:i<ops.size
   ·exact h
   ·rw[Array.getElem?_eq_none (by omega)]at ho;cases ho
  have h2:=ha i h6;rw[Array.getD_eq_getD_getElem?,Array.getElem?_eq_getElem (by omega)]at h1 h2;simp at h1 h2;rw[h1]at h2;cases h2
 |succ fuel ih=>
  intro listed a w hl hc hh;refine⟨fun h0=>h4 listed a w hl hh (vK hB hl h0),fun i hi=>?_⟩;obtain⟨h1,o,ho,hd⟩:=mem_ready.1 hi;have h5:i<ops.size:=by
   by_cases h:i<ops.size
   ·exact h
   ·rw[Array.getElem?_eq_none (by omega)]at ho;cases ho
  obtain⟨g1,⟨d,g2,g3⟩,g5⟩:=Qh hB ho h5;unfold wpOp;rw[ho];dsimp only;rw[if_pos (by unfold Region.wanted;rw[g1])];left;have st:Qf P ops ops.size md Q a0 w0 S i o:=by
   have:=uW ops.toList 0 hs i o (by simpa using ho)
   rwa [Nat.zero_add]at this
  refine Oper.wp_mono (fun a' w' hk=>?_) (st a w hh.bel (fun s hs=>hh.old s (zn hs)) (fun j o' d' hw h7 h3=>by
   unfold xY at hw;obtain⟨e,he,hx⟩:=Array.any_eq_true'.1 hw;simp only[Bool.and_eq_true,beq_iff_eq]at hx;obtain⟨h8,rfl⟩:=hx;exact hh.new e.on o' d' h7 h3 (hd e he h8)))
  obtain⟨hb,v,rfl,hv⟩:=hk;have cnt:=kv h1;refine ih _ _ _ (by simpa using hl) (by omega) ?_;have eput:∀ s,(a.put o.dst v).tmps.getD s undef=if s=d then v else a.tmps.getD s undef:=fun s=>by
   rw[g2]
   show(a.tmps.setIfInBounds d v).getD s undef=_
   rw[Array.getD_eq_getD_getElem?,Array.getElem?_setIfInBounds,Array.getD_eq_getD_getElem?];have:=hh.siz;by_cases e:s=d
   ·rw[if_pos e.symm,if_pos e,if_pos (show d<a.tmps.size by rw[hh.siz];exact g3)];rfl
   ·rw[if_neg (fun h=>e h.symm),if_neg e]
  refine⟨hh.bel.trans ⟨hb.os,hb.tape,hb.output,hb.size,fun k hk=>hb.block k (Nat.lt_of_lt_of_le hk hh.bel.size)⟩,?_,?_,fun s hs=>?_,fun j o' d' hj h3 hl'=>?_⟩
  ·rw[g2];show(a.tmps.setIfInBounds d v).size=_;rw[Array.size_setIfInBounds];exact hh.siz
  ·rw[g2];exact hh.dfr
  ·rw[eput,if_neg (fun e=>hs i o h5 ho (by rw[g2,e]))];exact hh.old s hs
  ·rw[eput];by_cases e:i=j
   ·subst e;rw[ho]at hj;cases hj;rw[g2]at h3;cases h3;rw[if_pos rfl];exact hv
   ·rw[if_neg (fun h=>g5 j o' hj e (by rw[g2,h3,h]))];rw[getD_set_ne false e]at hl';exact hp _ _ _ _ (hh.new j o' d' hj h3 hl') hb
theorem jG{id:Nat}{a:Act}{w:World}{S:Nat->Value->World->Prop}(hm:P.follows .mixedOrders=true)(hB:uX .any ops ops.size a.tmps.size=true)
  (hp:∀ i v w w',S i v w->Below w.heap.size w w'->S i v w')(hs:Jf P ops ops.size .any Q a w S ops.toList 0)
  (hf:∀ a' w',Hold ops ops.size a w S (Array.replicate ops.size true) a' w'->Q .normal a' w'):(Code.region id ops true).wp P Q a w:=
 wp_region_any hm (Xi hB hp hs hf _ _ _ _ (by simp) (by
  rw[Array.toList_replicate];exact Nat.le_trans List.count_le_length (by simp)) ⟨⟨rfl,rfl,rfl,Nat.le_refl _,fun _ _=>rfl⟩,rfl,rfl,fun _ _=>rfl,fun i o d hi hd hl=>by
   exfalso;rw[Array.getD_eq_getD_getElem?,Array.getElem?_replicate]at hl;split at hl<;>simp at hl⟩)
end
section
variable{P:Program}{ops:Array Oper}{md:Region.Mode}{Q:Exit->Act->World->Prop}
def qs(n m:Nat):Array Bool:=Array.ofFn (n:=n) fun i=>decide (i.val<m)
def xZ(md:Region.Mode)(ops:Array Oper)(k j:Nat):Bool:=match ops[k]? with
 |some o=>xY md o j
 |none=>false
def Gg(md:Region.Mode)(ops:Array Oper)(m:Nat):Bool:=
 (List.range m).all (fun j=>(List.range (m+1)).any fun k=>decide (j<k)&&xZ md ops k j)&&
  (List.range ops.size).all (fun k=>decide (k<=m)||xZ md ops k (k-1))
theorem qi{listed:Array Bool}{k j:Nat}(hk:k∈Region.ready md ops listed)(h:xZ md ops k j=true):listed.getD j false=true:=by
 obtain⟨-,o,ho,hd⟩:=mem_ready.1 hk;unfold xZ at h;rw[ho]at h;dsimp only at h;unfold xY at h;obtain⟨e,he,hx⟩:=Array.any_eq_true'.1 h;simp only[Bool.and_eq_true,beq_iff_eq]at hx;obtain⟨h0,rfl⟩:=hx;exact hd e he h0
def uZ(md:Region.Mode)(ops:Array Oper)(m:Nat)(listed:Array Bool):Prop:=
 (∀k j,listed.getD k false=true->xZ md ops k j=true->listed.getD j false=true)/\∀ k,m<=k->listed.getD k false=false
theorem Qi{listed:Array Bool}{i:Nat}(h:i<listed.size)(d:Bool):listed.getD i d=listed[i]:=by
 rw[Array.getD_eq_getD_getElem?,Array.getElem?_eq_getElem h];rfl
theorem Xk{m:Nat}{listed:Array Bool}(h:uZ md ops m listed){i:Nat}(hi:i∈Region.ready md ops listed)(him:i<m):uZ md ops m (listed.setIfInBounds i true):=by
 refine⟨fun k j hk hw=>?_,fun k hk=>by rw[getD_set_ne false (by omega)];exact h.2 k hk⟩;by_cases e:i=k
 ·subst e;exact getD_set_true (qi hi hw)
 ·rw[getD_set_ne false e]at hk;exact getD_set_true (h.1 k j hk hw)
theorem Ug{m:Nat}(hc:Gg md ops m=true){listed:Array Bool}(h:uZ md ops m listed)(hm:m∈Region.ready md ops listed):∀ j,j<m->listed.getD j false=true:=by
 unfold Gg at hc;simp only[Bool.and_eq_true]at hc;obtain⟨h1,-⟩:=hc;rw[List.all_eq_true]at h1;have key:∀ d j,m-j=d->j<m->listed.getD j false=true:=by
  intro d
  induction d using Nat.strongRecOn with
  |_ d ih=>
   intro j hd hj;have h2:=h1 j (List.mem_range.2 hj);rw[List.any_eq_true]at h2;obtain⟨k,hk,h3⟩:=h2;simp only[Bool.and_eq_true,decide_eq_true_eq]at h3;have hk:=List.mem_range.1 hk;by_cases e:k=m
   ·subst e;exact qi hm h3.2
   ·exact h.1 k j (ih (m-k) (by omega) k rfl (by omega)) h3.2
 exact fun j hj=>key _ j rfl hj
theorem Gh{m:Nat}{listed:Array Bool}(hs:listed.size=ops.size)(h:uZ md ops m listed)(ha:∀ j,j<m->j<ops.size->listed.getD j false=true):listed=qs ops.size m:=by
 apply Array.ext
 ·simp[qs,hs]
 ·intro i h1 h2;have hi:i<listed.size:=h1;simp only[qs,Array.getElem_ofFn];by_cases hm:i<m
  ·have:=ha i hm (by omega);rw[Qi hi]at this;rw[this];simp[hm]
  ·have:=h.2 i (by omega);rw[Qi hi]at this;rw[this];simp[hm]
theorem KH(n m:Nat)(h:m<=n):(qs n m).toList.count false=n-m:=by
 have e:(qs n m).toList=List.replicate m true++List.replicate (n-m) false:=by
  apply List.ext_getElem
  ·simp[qs];omega
  ·intro i h1 h2;simp only[qs,Array.toList_ofFn,List.getElem_ofFn,List.getElem_append,List.length_replicate,List.getElem_replicate];by_cases hm:i<m<;>simp[hm]
 rw[e,List.count_append,List.count_replicate,List.count_replicate];simp
theorem Xl{a0:Act}{w0:World}{S:Nat->Value->World->Prop}{m:Nat}(hB:uX md ops m a0.tmps.size=true)(hm:m<ops.size)(hc:Gg md ops m=true)
  (hp:∀ i v w w',S i v w->Below w.heap.size w w'->S i v w')(hs:Jf P ops m md Q a0 w0 S (ops.toList.take m) 0)
  (hf:∀ a w,Hold ops m a0 w0 S (qs ops.size m) a w->wpAny P md ops Q (ops.size-m) (qs ops.size m) a w):
  ∀(fuel:Nat)(listed:Array Bool)(a:Act)(w:World),listed.size=ops.size->listed.toList.count false=fuel->uZ md ops m listed->Hold ops m a0 w0 S listed a w->wpAny P md ops Q fuel listed a w:=by
 intro fuel
 induction fuel with
 |zero=>
  intro listed a w hl h7 h5 hh;exfalso;have h0:=h5.2 m (Nat.le_refl _);rw[Qi (by omega)]at h0;rw[List.count_eq_zero]at h7;exact h7 (by rw[<-h0];exact Array.getElem_mem_toList _)
 |succ fuel ih=>
  intro listed a w hl h7 h5 hh;by_cases ha:m∈Region.ready md ops listed
  ·have e:=Gh hl h5 (fun j hj _=>Ug hc h5 ha j hj);subst e;rw[KH _ _ (by omega)]at h7;rw[<-h7];exact hf a w hh
  ·refine⟨fun h0=>?_,fun i hi=>?_⟩
   ·have:=vK hB hl h0 m hm;rw[h5.2 m (Nat.le_refl _)]at this;cases this
   obtain⟨h1,o,ho,hd⟩:=mem_ready.1 hi;have he:i<ops.size:=by
    by_cases h:i<ops.size
    ·exact h
    ·rw[Array.getElem?_eq_none (by omega)]at ho;cases ho
   have h8:i<m:=by
    by_cases h:i<m
    ·exact h
    ·exfalso;have hn:i≠m:=fun e=>ha (e▸hi)
     have h9:=hc;unfold Gg at h9;simp only[Bool.and_eq_true]at h9;have h2:=h9.2;rw[List.all_eq_true]at h2;have h3:=h2 i (List.mem_range.2 he);simp only[Bool.or_eq_true,decide_eq_true_eq]at h3;have h4:=qi hi (h3.resolve_left (by omega));rw[h5.2 (i-1) (by omega)]at h4;cases h4
   obtain⟨g1,⟨d,g2,g3⟩,g5⟩:=Qh hB ho h8;unfold wpOp;rw[ho];dsimp only;rw[if_pos (by unfold Region.wanted;rw[g1])];left;have st:Qf P ops m md Q a0 w0 S i o:=by
    have:=uW (ops.toList.take m) 0 hs i o (by rw[List.getElem?_take,if_pos h8];simpa using ho)
    rwa [Nat.zero_add]at this
   refine Oper.wp_mono (fun a' w' hk=>?_) (st a w hh.bel (fun s hs=>hh.old s (zn hs)) (fun j o' d' hw hg h6=>hh.new j o' d' hg h6 (qi hi (by unfold xZ;rw[ho];exact hw))));obtain⟨hb,v,rfl,hv⟩:=hk;have cnt:=kv h1;refine ih _ _ _ (by simpa using hl) (by omega) (Xk h5 hi h8) ?_;have eput:∀ s,(a.put o.dst v).tmps.getD s undef=if s=d then v else a.tmps.getD s undef:=fun s=>by
    rw[g2]
    show(a.tmps.setIfInBounds d v).getD s undef=_
    rw[Array.getD_eq_getD_getElem?,Array.getElem?_setIfInBounds,Array.getD_eq_getD_getElem?];have:=hh.siz;by_cases e:s=d
    ·rw[if_pos e.symm,if_pos e,if_pos (show d<a.tmps.size by rw[hh.siz];exact g3)];rfl
    ·rw[if_neg (fun h=>e h.symm),if_neg e]
   refine⟨hh.bel.trans ⟨hb.os,hb.tape,hb.output,hb.size,fun k hk=>hb.block k (Nat.lt_of_lt_of_le hk hh.bel.size)⟩,?_,?_,fun s hs=>?_,fun j o' d' hj h6 hl'=>?_⟩
   ·rw[g2];show(a.tmps.setIfInBounds d v).size=_;rw[Array.size_setIfInBounds];exact hh.siz
   ·rw[g2];exact hh.dfr
   ·rw[eput,if_neg (fun e=>hs i o h8 ho (by rw[g2,e]))];exact hh.old s hs
   ·rw[eput];by_cases e:i=j
    ·subst e;rw[ho]at hj;cases hj;rw[g2]at h6;cases h6;rw[if_pos rfl];exact hv
    ·rw[if_neg (fun h=>g5 j o' hj e (by rw[g2,h6,h]))];rw[getD_set_ne false e]at hl';exact hp _ _ _ _ (hh.new j o' d' hj h6 hl') hb
theorem Z0{id:Nat}{a:Act}{w:World}{S:Nat->Value->World->Prop}(m:Nat)(hm:P.follows .mixedOrders=true)(hB:uX .any ops m a.tmps.size=true)(hl:m<ops.size)(hc:Gg .any ops m=true)
  (hp:∀ i v w w',S i v w->Below w.heap.size w w'->S i v w')(hs:Jf P ops m .any Q a w S (ops.toList.take m) 0)
  (hf:∀ a' w',Hold ops m a w S (qs ops.size m) a' w'->wpAny P .any ops Q (ops.size-m) (qs ops.size m) a' w'):(Code.region id ops true).wp P Q a w:=
 wp_region_any hm (Xl hB hl hc hp hs hf _ _ _ _ (by simp) (by simp) ⟨fun k j hk _=>by
   exfalso;rw[Array.getD_eq_getD_getElem?,Array.getElem?_replicate]at hk;split at hk<;>simp at hk,fun k _=>by
   rw[Array.getD_eq_getD_getElem?,Array.getElem?_replicate];split<;>rfl⟩ ⟨⟨rfl,rfl,rfl,Nat.le_refl _,fun _ _=>rfl⟩,rfl,rfl,fun _ _=>rfl,fun i o d hi hd hl=>by
   exfalso;rw[Array.getD_eq_getD_getElem?,Array.getElem?_replicate]at hl;split at hl<;>simp at hl⟩)
theorem Yk(s:Array Value):∀(ds:List Nat)(t:Array Value),(ds.foldl (fun t d=>t.setIfInBounds d (s.getD d undef)) t).size=t.size/\∀ i,i<t.size->(ds.foldl (fun t d=>t.setIfInBounds d (s.getD d undef)) t).getD i undef=if i∈ds then s.getD i undef else t.getD i undef
 |[],t=>⟨rfl,fun i _=>by simp⟩
 |d::ds,t=>by
  obtain⟨h1,h2⟩:=Yk s ds (t.setIfInBounds d (s.getD d undef));refine⟨by rw[List.foldl_cons,h1,Array.size_setIfInBounds],fun i hi=>?_⟩;rw[List.foldl_cons,h2 i (by simpa using hi)];have e:(t.setIfInBounds d (s.getD d undef)).getD i undef=if d=i then s.getD d undef else t.getD i undef:=by
   rw[Array.getD_eq_getD_getElem?,Array.getElem?_setIfInBounds,Array.getD_eq_getD_getElem?];by_cases e:d=i
   ·subst e;simp[hi]
   ·simp[e]
  rw[e];by_cases h3:i∈ds
  ·simp[h3]
  ·by_cases h4:d=i
   ·subst h4;simp[h3]
   ·have:¬ i=d:=fun h=>h4 h.symm
    simp[h3,h4,this]
theorem Hold.lit{m:Nat}{a0 a:Act}{w0 w:World}{S:Nat->Value->World->Prop}{listed:Array Bool}(h:Hold ops m a0 w0 S listed a w)(ds:List Nat)(hd:(ops.toList.take m).map (·.dst)=ds.map some):a.tmps=ds.foldl (fun t d=>t.setIfInBounds d (a.tmps.getD d undef)) a0.tmps:=by
 obtain⟨h1,h2⟩:=Yk a.tmps ds a0.tmps;apply Array.ext
 ·rw[h1];exact h.siz
 ·intro i hi hj;have h6:i<a0.tmps.size:=by rw[<-h.siz];exact hi
  have h3:=h2 i h6;rw[Array.getD_eq_getD_getElem?,Array.getElem?_eq_getElem hj,Option.getD_some]at h3;rw[h3];have e:a.tmps.getD i undef=a.tmps[i]:=by rw[Array.getD_eq_getD_getElem?,Array.getElem?_eq_getElem hi];rfl
  by_cases h4:i∈ds
  ·rw[if_pos h4,e]
  ·rw[if_neg h4,<-e];refine h.old i fun k o hk ho he=>h4 ?_
   have h5:some i∈ds.map some:=by
    rw[<-hd];exact List.mem_map.2 ⟨o,List.mem_of_getElem? (i:=k) (by rw[List.getElem?_take,if_pos hk];simpa using ho),he⟩
   obtain⟨j,h7,h0⟩:=List.mem_map.1 h5;cases h0;exact h7
inductive Kx where
 |is (u:Value)
 |ok (p:Value->World->Prop) (hp:∀ v W W',p v W->Below W.heap.size W W'->p v W')
def Kx.holds:Kx->Value->World->Prop
 |.is u,v,_=>v=u
 |.ok p _,v,W=>p v W
theorem Kx.lasts(k:Kx)(v:Value)(W W':World)(h:k.holds v W)(hb:Below W.heap.size W W'):k.holds v W':=by
 cases k with
 |is u=>exact h
 |ok p hp=>exact hp v W W' h hb
section
variable{o:Oper}{act:Act}{W:World}{k:Kx}
end
end
section
variable{P:Program}{ops:Array Oper}{md:Region.Mode}{Q:Exit->Act->World->Prop}
structure HoldG(R:World->World->Prop)(ops:Array Oper)(m:Nat)(a0:Act)(w0:World)(S:Nat->Value->World->Prop)(listed:Array Bool)(a:Act)(w:World):Prop where
 bel:R w0 w
 siz:a.tmps.size=a0.tmps.size
 dfr:a.defers=a0.defers
 old:∀ s,(∀(i:Nat)(o:Oper),i<m->ops[i]?=some o->o.dst≠some s)->a.tmps.getD s undef=a0.tmps.getD s undef
 new:∀(i:Nat)(o:Oper)(d:Tmp),ops[i]?=some o->o.dst=some d->listed.getD i false=true->S i (a.tmps.getD d undef) w
def GZ(R:World->World->Prop)(P:Program)(ops:Array Oper)(m:Nat)(md:Region.Mode)(Q:Exit->Act->World->Prop)(a0:Act)(w0:World)(S:Nat->Value->World->Prop)(i:Nat)(o:Oper):Prop:=
 ∀a w,R w0 w->(∀s,Yj ops m s=true->a.tmps.getD s undef=a0.tmps.getD s undef)->
  (∀(j:Nat)(o':Oper)(d:Tmp),xY md o j=true->ops[j]?=some o'->o'.dst=some d->S j (a.tmps.getD d undef) w)->
  o.wp P a w (fun a' w'=>R w w'/\∃ v,a'=a.put o.dst v/\S i v w') Q
def QC(R:World->World->Prop)(P:Program)(ops:Array Oper)(m:Nat)(md:Region.Mode)(Q:Exit->Act->World->Prop)(a0:Act)(w0:World)(S:Nat->Value->World->Prop):List Oper->Nat->Prop
 |[],_=>True
 |o::l,k=>GZ R P ops m md Q a0 w0 S k o/\QC R P ops m md Q a0 w0 S l (k+1)
theorem JD{R:World->World->Prop}{m:Nat}{a0:Act}{w0:World}{S:Nat->Value->World->Prop}:∀(l:List Oper)(k:Nat),QC R P ops m md Q a0 w0 S l k->∀ i o,l[i]?=some o->GZ R P ops m md Q a0 w0 S (k+i) o
 |[],_,_,i,o,h=>by simp at h
 |x::l,k,hs,0,o,h=>by
  simp at h;subst h;exact hs.1
 |x::l,k,hs,i+1,o,h=>by
  have:=JD l (k+1) hs.2 i o (by simpa using h);rw[show k+(i+1)=k+1+i by omega];exact this
theorem Va{R:World->World->Prop}(ht:∀ a b c,R a b->R b c->R a c){a0:Act}{w0:World}{S:Nat->Value->World->Prop}(hB:uX md ops ops.size a0.tmps.size=true)
  (hp:∀ i v w w',S i v w->R w w'->S i v w')(hs:QC R P ops ops.size md Q a0 w0 S ops.toList 0)
  (hf:∀ a w,HoldG R ops ops.size a0 w0 S (Array.replicate ops.size true) a w->Q .normal a w):
  ∀(fuel:Nat)(listed:Array Bool)(a:Act)(w:World),listed.size=ops.size->listed.toList.count false<=fuel->HoldG R ops ops.size a0 w0 S listed a w->wpAny P md ops Q fuel listed a w:=by
 have h4:∀(listed:Array Bool) a w,listed.size=ops.size->HoldG R ops ops.size a0 w0 S listed a w->(∀i,i<ops.size->listed.getD i false=true)->Q .normal a w:=fun listed a w hl hh ha=>
  hf a w ⟨hh.bel,hh.siz,hh.dfr,hh.old,fun i o d hi hd _=>hh.new i o d hi hd (ha i (by
   by_cases h:i<ops.size
   ·exact h
   ·rw[Array.getElem?_eq_none (by omega)]at hi;cases hi))⟩
 intro fuel
 induction fuel with
 |zero=>
  intro listed a w hl hc hh;have ha:∀ i,i<ops.size->listed.getD i false=true:=fun i hi=>by
   have h0:listed.toList.count false=0:=by omega
   rw[List.count_eq_zero]at h0;rw[Array.getD_eq_getD_getElem?,Array.getElem?_eq_getElem (by omega)];rcases hv:listed[i]'(by omega)with _|_
   ·exact absurd (by rw[<-hv];exact Array.getElem_mem_toList _) h0
   ·simp
  refine⟨?_,h4 listed a w hl hh ha⟩;apply List.eq_nil_iff_forall_not_mem.2;intro i hi;obtain⟨h1,o,ho,-⟩:=mem_ready.1 hi;have h6:i<ops.size:=by
   by_cases h:i<ops.size
   ·exact h
   ·rw[Array.getElem?_eq_none (by omega)]at ho;cases ho
  have h2:=ha i h6;rw[Array.getD_eq_getD_getElem?,Array.getElem?_eq_getElem (by omega)]at h1 h2;simp at h1 h2;rw[h1]at h2;cases h2
 |succ fuel ih=>
  intro listed a w hl hc hh;refine⟨fun h0=>h4 listed a w hl hh (vK hB hl h0),fun i hi=>?_⟩;obtain⟨h1,o,ho,hd⟩:=mem_ready.1 hi;have h5:i<ops.size:=by
   by_cases h:i<ops.size
   ·exact h
   ·rw[Array.getElem?_eq_none (by omega)]at ho;cases ho
  obtain⟨g1,⟨d,g2,g3⟩,g5⟩:=Qh hB ho h5;unfold wpOp;rw[ho];dsimp only;rw[if_pos (by unfold Region.wanted;rw[g1])];left;have st:GZ R P ops ops.size md Q a0 w0 S i o:=by
   have:=JD ops.toList 0 hs i o (by simpa using ho)
   rwa [Nat.zero_add]at this
  refine Oper.wp_mono (fun a' w' hk=>?_) (st a w hh.bel (fun s hs=>hh.old s (zn hs)) (fun j o' d' hw h7 h3=>by
   unfold xY at hw;obtain⟨e,he,hx⟩:=Array.any_eq_true'.1 hw;simp only[Bool.and_eq_true,beq_iff_eq]at hx;obtain⟨h8,rfl⟩:=hx;exact hh.new e.on o' d' h7 h3 (hd e he h8)))
  obtain⟨hb,v,rfl,hv⟩:=hk;have cnt:=kv h1;refine ih _ _ _ (by simpa using hl) (by omega) ?_;have eput:∀ s,(a.put o.dst v).tmps.getD s undef=if s=d then v else a.tmps.getD s undef:=fun s=>by
   rw[g2]
   show(a.tmps.setIfInBounds d v).getD s undef=_
   rw[Array.getD_eq_getD_getElem?,Array.getElem?_setIfInBounds,Array.getD_eq_getD_getElem?];have:=hh.siz;by_cases e:s=d
   ·rw[if_pos e.symm,if_pos e,if_pos (show d<a.tmps.size by rw[hh.siz];exact g3)];rfl
   ·rw[if_neg (fun h=>e h.symm),if_neg e]
  refine⟨ht _ _ _ hh.bel hb,?_,?_,fun s hs=>?_,fun j o' d' hj h3 hl'=>?_⟩
  ·rw[g2];show(a.tmps.setIfInBounds d v).size=_;rw[Array.size_setIfInBounds];exact hh.siz
  ·rw[g2];exact hh.dfr
  ·rw[eput,if_neg (fun e=>hs i o h5 ho (by rw[g2,e]))];exact hh.old s hs
  ·rw[eput];by_cases e:i=j
   ·subst e;rw[ho]at hj;cases hj;rw[g2]at h3;cases h3;rw[if_pos rfl];exact hv
   ·rw[if_neg (fun h=>g5 j o' hj e (by rw[g2,h3,h]))];rw[getD_set_ne false e]at hl';exact hp _ _ _ _ (hh.new j o' d' hj h3 hl') hb
theorem ua(R:World->World->Prop)(hr:∀ a:World,R a a.drew)(ht:∀ a b c,R a b->R b c->R a c){id:Nat}{a:Act}{w:World}{S:Nat->Value->World->Prop}(hm:P.follows .mixedOrders=true)(hB:uX .any ops ops.size a.tmps.size=true)
  (hp:∀ i v w w',S i v w->R w w'->S i v w')(hs:QC R P ops ops.size .any Q a w S ops.toList 0)
  (hf:∀ a' w',HoldG R ops ops.size a w S (Array.replicate ops.size true) a' w'->Q .normal a' w'):(Code.region id ops true).wp P Q a w:=
 wp_region_any hm (Va ht hB hp hs hf _ _ _ _ (by simp) (by
  rw[Array.toList_replicate];exact Nat.le_trans List.count_le_length (by simp)) ⟨hr _,rfl,rfl,fun _ _=>rfl,fun i o d hi hd hl=>by
   exfalso;rw[Array.getD_eq_getD_getElem?,Array.getElem?_replicate]at hl;split at hl<;>simp at hl⟩)
end
end
end Go.Proofs.YtdeogmbfgkepeaaGreatDoor
