/- Contracts for WholeDelivers. -/
import Derived.Laws.IdiomRangeMap
import Derived.Maps.RangeWalk
import Derived.Test.YtdeogmbfgkepeaaGreatDoorR14
set_option linter.unusedVariables false
set_option linter.unusedSimpArgs false
set_option maxRecDepth 100000
set_option maxHeartbeats 64000000
namespace Go.Proofs.YtdeogmbfgkepeaaGreatDoor
open Go.Proofs.Tryz
open Go.Value renaming int->O
open Go.IntKind renaming i64->J
section
open Go.RowKit HB Go.Maps CalP
structure KTy(α:Type) where
 K:TypeId
 law:Keyed prog K
 mv:α->Value
 kl:α->Lit
 wf:α->Prop
 key:∀ x,wf x->keyOf prog K (mv x)=some (kl x)
 inj:∀ x y,wf x->wf y->kl x=kl y->x=y
 inv:∀ v l,keyOf prog K v=some l->∃ x,v=mv x/\wf x/\l=kl x
theorem KTy.isKey{α:Type}(Y:KTy α){x:α}(h:Y.wf x):WideAt.IsKeyLit (Y.kl x):=Y.law.key (Y.key x h)
open Classical in
noncomputable def ci{β:Type}(mk:β->Value)(v:Value):Option (DataW Value×List MemPlace):=if∃c,v=mk c then some (.held v,[])else none
theorem VA{β:Type}(mk:β->Value)(c:β):ci mk (mk c)=some (.held (mk c),[]):=by unfold ci;rw[if_pos ⟨c,rfl⟩]
theorem ug{β:Type}{mk:β->Value}{v:Value}{y:DataW Value×List MemPlace}(h:ci mk v=some y):(∃c,v=mk c)/\y=(.held v,[]):=by
 unfold ci at h;split at h
 ·rename_i hc;exact⟨hc,by injection h with h;exact h.symm⟩
 ·cases h
def WF:DataW Value->Option Value
 |.held v=>some v
 |_=>none
theorem qM{v u:Value}(h:(DataW.held v:DataW Value)=.held u):v=u:=by
 have:=congrArg WF h;simpa[WF]using this
def Mv{α β:Type}(Y:KTy α)(mk:β->Value)(w:l6)(m:Option Nat)(n:Nat)(f:α->Option β):Prop:=
 (m=none/\∀ x,f x=none)\/∃ b D,m=some b/\w.ownsMap prog Y.K (ci mk) b n D/\∀ x,Y.wf x->Maps.has D (Y.kl x)=(f x).isSome/\∀ c,f x=some c->∀ zd,D.atKey (Y.kl x) zd=.held (mk c)
section
variable{α β:Type}{Y:KTy α}{mk:β->Value}{w w':l6}{m:Option Nat}{n:Nat}{f:α->Option β}
theorem Mv.kept(h:Mv Y mk w m n f){row:Option Nat}(hg:w.grownBy w' row)(hne:∀ b,m=some b->some b≠row):Mv Y mk w' m n f:=by
 rcases h with h|⟨b,D,h1,h2,h3⟩
 ·exact .inl h
 ·exact .inr ⟨b,D,h1,h2.kept hg (hne b h1),h3⟩
theorem Mv.below(h:Mv Y mk w m n f)(hb:fj w w'):Mv Y mk w' m n f:=
 h.kept (row:=none) ⟨hb.os,hb.tape,hb.output,hb.size,fun k hk _=>hb.block k hk⟩ (fun b _=>by simp)
theorem Mv.lt(h:Mv Y mk w m n f){b:Nat}(hm:m=some b):b<w.heap.size:=by
 rcases h with⟨h1,_⟩|⟨b',D,h1,h2,h3⟩
 ·rw[h1]at hm;cases hm
 ·rw[h1]at hm;injection hm with hm;subst hm;exact h2.lt
theorem Mv.but{X:Nat->Prop}(h:Mv Y mk w m n f)(ho:But X w w')(hx:∀ b,m=some b->¬ X b):Mv Y mk w' m n f:=by
 rcases h with h|⟨b,D,h1,⟨es,clock,k1,k2,k3,k4⟩,h3⟩
 ·exact .inl h
 ·have hl:b<w.heap.size:=(Vp.1 k1).1;exact .inr ⟨b,D,h1,⟨es,clock,(ho.block b hl (hx b h1)).trans k1,k2,k3,k4⟩,h3⟩
theorem Mv.mono(h:Mv Y mk w m n f){n':Nat}(hn:n<=n'):Mv Y mk w m n' f:=by
 rcases h with h|⟨b,D,h1,h2,h3⟩
 ·exact .inl h
 ·exact .inr ⟨b,D,h1,h2.mono hn,h3⟩
theorem Mv.made(Y:KTy α)(mk:β->Value)(w:l6):Mv Y mk (w.alloc (.map #[] 0)) (some w.heap.size) 0 (fun _=>none):=
 .inr ⟨_,.map [],rfl,World.ownsMap_made _ _ _ _,fun x _=>⟨by simp[Maps.has],fun c h=>by cases h⟩⟩
theorem Mv.look2(h:Mv Y mk w m n f){T E:TypeId}(ht:prog.underlying T=some (.map Y.K E)){z:β}(hz:∀ w,(zeroValue E).run prog w=.ok (mk z) w){x:α}(hx:Y.wf x):
  (Instr.lookup T (.map m) (Y.mv x) true).run prog w=.ok (.tuple #[mk ((f x).getD z),.bool (f x).isSome]) w:=by
 rcases h with⟨rfl,h⟩|⟨b,D,rfl,h2,h3⟩
 ·rw[h x];exact Maps.look_nil true Y.law ht (hz w) (Y.key x hx)
 ·obtain⟨v,ps,h1,hv⟩:=h2.look_ok Y.law ht (hz w) (VA mk z) (Y.key x hx);obtain⟨⟨c,rfl⟩,hy⟩:=ug hv;have h0:D.atKey (Y.kl x) (.held (mk z))=.held (mk c):=congrArg Prod.fst hy;obtain⟨k1,k2⟩:=h3 x hx;rw[h1,k1];cases hf:f x with
  |none=>
   rw[hf]at k1;rw[Maps.atKey_of_not_has k1]at h0;have h4:=qM h0;rw[<-h4];rfl
  |some d=>
   rw[k2 d hf]at h0;have h4:=qM h0;rw[<-h4];rfl
theorem Mv.look1(h:Mv Y mk w m n f){T E:TypeId}(ht:prog.underlying T=some (.map Y.K E)){z:β}(hz:∀ w,(zeroValue E).run prog w=.ok (mk z) w){x:α}(hx:Y.wf x):
  (Instr.lookup T (.map m) (Y.mv x) false).run prog w=.ok (mk ((f x).getD z)) w:=by
 rcases h with⟨rfl,h⟩|⟨b,D,rfl,h2,h3⟩
 ·rw[h x];exact Maps.look_nil false Y.law ht (hz w) (Y.key x hx)
 ·obtain⟨v,ps,h1,hv⟩:=h2.lookup Y.law ht (hz w) (VA mk z) (Y.key x hx);obtain⟨⟨c,rfl⟩,hy⟩:=ug hv;have h0:D.atKey (Y.kl x) (.held (mk z))=.held (mk c):=congrArg Prod.fst hy;obtain⟨k1,k2⟩:=h3 x hx;rw[h1];cases hf:f x with
  |none=>
   rw[hf]at k1;rw[Maps.atKey_of_not_has k1]at h0;have h4:=qM h0;rw[<-h4];rfl
  |some d=>
   rw[k2 d hf]at h0;have h4:=qM h0;rw[<-h4];rfl
open Classical in
noncomputable def upd{α β:Type}(f:α->Option β)(x:α)(c:Option β):α->Option β:=fun y=>if y=x then c else f y
theorem zK{α β:Type}(f:α->Option β)(x:α)(c:Option β):upd f x c x=c:=if_pos rfl
theorem zv{α β:Type}(f:α->Option β){x y:α}(c:Option β)(h:y≠x):upd f x c y=f y:=if_neg h
theorem Mv.store{b:Nat}(h:Mv Y mk w (some b) n f){T E:TypeId}(ht:prog.underlying T=some (.map Y.K E))(hn:n<maxLen){x:α}(hx:Y.wf x)(c:β):
  ∃w',(Instr.mapUpdate T (.map (some b)) (Y.mv x) (mk c)).run prog w=.ok () w'/\Mv Y mk w' (some b) (n+1) (upd f x (some c))/\w.grownBy w' (some b):=by
 rcases h with⟨h1,_⟩|⟨b',D,h1,h2,h3⟩
 ·cases h1
 ·injection h1 with h1;subst h1;obtain⟨w',h0,r1,r2⟩:=h2.store Y.law ht hn (Y.key x hx) (VA mk c);have h6:=h2.tidy Y.law;refine⟨w',h0,.inr ⟨_,_,rfl,r1,fun y hy=>?_⟩,r2.grown⟩;by_cases h4:y=x
  ·subst h4;rw[zK];exact⟨Maps.has_put_same h6.isMap (Y.isKey hy) _,fun d hd zd=>by
    have hd:c=d:=ve hd;subst hd;exact Maps.atKey_put_same h6.isMap (Y.isKey hy) _ zd⟩
  ·have h5:Y.kl y≠Y.kl x:=fun e=>h4 (Y.inj y x hy hx e)
   rw[zv f _ h4,Maps.has_put_other h5];exact⟨(h3 y hy).1,fun d hd zd=>by rw[Maps.atKey_put_other h5];exact(h3 y hy).2 d hd zd⟩
theorem Mv.drop(h:Mv Y mk w m n f){T E:TypeId}(ht:prog.underlying T=some (.map Y.K E)){x:α}(hx:Y.wf x)(ty:TypeId):
  ∃w',(Builtin.delete_ #[T,Y.K] ty #[.map m,Y.mv x]).run prog w=.ok (.tuple #[]) w'/\Mv Y mk w' m n (upd f x none)/\w.grownBy w' m:=by
 rcases h with⟨rfl,h⟩|⟨b,D,rfl,h2,h3⟩
 ·refine⟨w,Maps.drop_nil Y.law ht (Y.key x hx) ty,.inl ⟨rfl,fun y=>?_⟩,⟨rfl,rfl,rfl,fi,fun _ _ _=>rfl⟩⟩;unfold upd;split
  ·rfl
  ·exact h y
 ·obtain⟨w',h0,r1,r2⟩:=h2.drop Y.law ht (Y.key x hx) ty;have h5:=h2.tidy Y.law;refine⟨w',h0,.inr ⟨b,_,rfl,r1,fun y hy=>?_⟩,r2.grown⟩;by_cases h1:y=x
  ·subst h1;rw[zK];exact⟨Maps.has_del_same,fun d hd=>by cases hd⟩
  ·have h4:Y.kl y≠Y.kl x:=fun e=>h1 (Y.inj y x hy hx e)
   rw[zv f _ h1,Maps.has_del_other h4];exact⟨(h3 y hy).1,fun d hd zd=>by rw[Maps.atKey_del_other h4];exact(h3 y hy).2 d hd zd⟩
end
theorem vP{d:Nat}{v:Value}{ls:List Lit}(h:prog.keyLits (d+1) 3 [v]=some ls):∃ a,v=.int .i64 a/\jX a/\ls=[.int .i64 a]:=by
 unfold Program.keyLits at h;rw[underlying3]at h;cases v<;>simp at h
 obtain⟨⟨rfl,h2⟩,h3⟩:=h;exact⟨_,rfl,h2,h3.symm⟩
theorem uu:∃ d,prog.types.size+1=d+2:=⟨prog.types.size-1,by kernel_rfl⟩
theorem WG(v:Value)(l:Lit)(h:keyOf prog 148 v=some l):∃ x:Int×Int,v=.agg #[.int .i64 x.1,.int .i64 x.2]/\(jX x.1/\jX x.2)/\l=kl x.1 x.2:=by
 have c1:prog.cellsOf 148=2:=by kernel_rfl
 have c2:prog.cellsOf 3=1:=by kernel_rfl
 have h0:=h;obtain⟨d,hd⟩:=uu;unfold keyOf at h;rw[underlying148,hd]at h;simp only at h;split at h
 ·rename_i hf;simp only[Wj]at hf;have h3:=hf.2;cases v with
  |agg cs=>
   simp only[Value.formed,underlying148,c1,beq_iff_eq]at h3;obtain⟨cs⟩:=cs;simp only[Wf]at h3
   match cs,h3 with
   |[x,y],_=>
    cases hk:prog.keyLits (d+2) 148 [x,y]with
    |none=>rw[show(Value.agg #[x,y]).cells.toList=[x,y]from rfl,hk]at h;simp at h
    |some ls=>
     unfold Program.keyLits at hk;rw[underlying148]at hk;cases h1:prog.keyLits (d+1) 3 [x]with
     |none=>simp[c1,c2,h1]at hk
     |some l1=>
     cases h2:prog.keyLits (d+1) 3 [y]with
     |none=>simp[c1,c2,h1,h2]at hk
     |some l2=>
     clear hk;obtain⟨a,rfl,ha,-⟩:=vP h1;obtain⟨b,rfl,hb,-⟩:=vP h2;refine⟨(a,b),rfl,⟨ha,hb⟩,?_⟩;have:=qG ha hb;rw[h0]at this;exact ve this
  |_=>simp[Value.formed,underlying148]at h3
 ·cases h
noncomputable def cellK:KTy (Int×Int):={K:=148,law:=cellLaw,mv:=fun x=>.agg #[O J x.1,O J x.2],kl:=fun x=>kl x.1 x.2,wf:=fun x=>jX x.1/\jX x.2,key:=fun x h=>qG h.1 h.2,inj:=fun x y hx hy h=>Prod.ext (xF hx.1 hx.2 hy.1 hy.2 h).1 (xF hx.1 hx.2 hy.1 hy.2 h).2,inv:=WG}
theorem hkLaw:Keyed prog 360:=Keyed.of_law (deep_law_laid Tryz.laidOut (m:=2) (by omega) (of_decide_eq_true (by kernel_rfl)) (by kernel_rfl) (by kernel_rfl))
noncomputable def dj(a b c:Int):Lit:=.string (keyBytes [.int .i64 a,.int .i64 b,.int .i64 c])
theorem JL{a b c:Int}(ha:jX a)(hb:jX b)(hc:jX c):keyOf prog 360 (.agg #[O J a,O J b,O J c])=some (dj a b c):=by
 have h1:prog.keyType 360=true:=by kernel_rfl
 have c1:prog.cellsOf 360=3:=by kernel_rfl
 have c2:prog.cellsOf 3=1:=by kernel_rfl
 have h2:(Value.agg #[O J a,O J b,O J c]).formed prog 360=true:=by
  simp[Value.formed,underlying360,c1]
 obtain⟨d,hd⟩:=uu;unfold keyOf;rw[underlying360];simp only[h1,h2,Bool.and_self,if_true];rw[hd];have h3:prog.keyLits (d+2) 360 [.int .i64 a,.int .i64 b,.int .i64 c]=some [.int .i64 a,.int .i64 b,.int .i64 c]:=by
  unfold jX at ha hb hc;simp[Program.keyLits,underlying360,underlying3,c1,c2,ha,hb,hc]
 show Option.map _ (prog.keyLits _ _ [.int .i64 a,.int .i64 b,.int .i64 c])=_
 rw[h3]
 rfl
theorem cm{a b c a' b' c':Int}(ha:jX a)(hb:jX b)(hc:jX c)(ha':jX a')(hb':jX b')(hc':jX c')(h:dj a b c=dj a' b' c'):a=a'/\b=b'/\c=c':=by
 have h1:=JL ha hb hc;have h2:=JL ha' hb' hc';rw[<-h]at h2;have:=hkLaw.inj h1 h2;simpa using this
theorem cq(v:Value)(l:Lit)(h:keyOf prog 360 v=some l):∃ x:Int×Int×Int,v=.agg #[.int .i64 x.1,.int .i64 x.2.1,.int .i64 x.2.2]/\(jX x.1/\jX x.2.1/\jX x.2.2)/\l=dj x.1 x.2.1 x.2.2:=by
 have c1:prog.cellsOf 360=3:=by kernel_rfl
 have c2:prog.cellsOf 3=1:=by kernel_rfl
 have h0:=h;obtain⟨d,hd⟩:=uu;unfold keyOf at h;rw[underlying360,hd]at h;simp only at h;split at h
 ·rename_i hf;simp only[Wj]at hf;have h4:=hf.2;cases v with
  |agg cs=>
   simp only[Value.formed,underlying360,c1,beq_iff_eq]at h4;obtain⟨cs⟩:=cs;simp only[Wf]at h4
   match cs,h4 with
   |[x,y,z],_=>
    cases hk:prog.keyLits (d+2) 360 [x,y,z]with
    |none=>rw[show(Value.agg #[x,y,z]).cells.toList=[x,y,z]from rfl,hk]at h;simp at h
    |some ls=>
     unfold Program.keyLits at hk;rw[underlying360]at hk;cases h1:prog.keyLits (d+1) 3 [x]with
     |none=>simp[c1,c2,h1]at hk
     |some l1=>
     cases h2:prog.keyLits (d+1) 3 [y]with
     |none=>simp[c1,c2,h1,h2]at hk
     |some l2=>
     cases h3:prog.keyLits (d+1) 3 [z]with
     |none=>simp[c1,c2,h1,h2,h3]at hk
     |some l3=>
     clear hk;obtain⟨a,rfl,ha,-⟩:=vP h1;obtain⟨b,rfl,hb,-⟩:=vP h2;obtain⟨c,rfl,hc,-⟩:=vP h3;refine⟨(a,b,c),rfl,⟨ha,hb,hc⟩,?_⟩;have:=JL ha hb hc;rw[h0]at this;exact ve this
  |_=>simp[Value.formed,underlying360]at h4
 ·cases h
noncomputable def hallK:KTy (Int×Int×Int):={K:=360,law:=hkLaw,mv:=fun x=>.agg #[O J x.1,O J x.2.1,O J x.2.2],kl:=fun x=>dj x.1 x.2.1 x.2.2,wf:=fun x=>jX x.1/\jX x.2.1/\jX x.2.2,key:=fun x h=>JL h.1 h.2.1 h.2.2,inj:=fun x y hx hy h=>(have h4:=cm hx.1 hx.2.1 hx.2.2 hy.1 hy.2.1 hy.2.2 h;Prod.ext h4.1 (Prod.ext h4.2.1 h4.2.2)),inv:=cq}
theorem aw(v:Value)(l:Lit)(h:keyOf prog 9 v=some l):∃ s:iY,v=.string s/\s.size<=maxLen/\l=.string s.data.toList:=by
 simp only[keyOf,underlying9]at h;unfold mapKey at h;rw[underlying9]at h;cases v<;>simp at h
 exact⟨_,rfl,h.1,h.2.symm⟩
def qu(m:Option Nat)(w:l6)(r:Nat):Nat:=match m with
 |none=>0
 |some b=>w.rangeLeft b r
def Rk{α β:Type}(Y:KTy α)(mk:β->Value)(f:α->Option β)(m:Option Nat)(w:l6)(r cnt:Nat)(left:α->Prop):Prop:=
 (m=none/\cnt=0/\(∀x,¬left x)/\∃ a s b,w.heap[r]?=some (.mapIter none a s b))\/
 ∃b n D lf,m=some b/\w.ranges prog Y.K (ci mk) b r n D lf cnt/\(∀x,Y.wf x->Maps.has D (Y.kl x)=(f x).isSome/\∀ c,f x=some c->∀ zd,D.atKey (Y.kl x) zd=.held (mk c))/\∀ x,Y.wf x->(left x↔lf (Y.kl x)=true)
section
variable{α β:Type}{Y:KTy α}{mk:β->Value}{f:α->Option β}{m:Option Nat}{w w':l6}{r cnt n:Nat}{left:α->Prop}
theorem Rk.left_eq(h:Rk Y mk f m w r cnt left):qu m w r=cnt:=by
 rcases h with⟨rfl,rfl,-⟩|⟨b,n,D,left,rfl,h,-⟩
 ·rfl
 ·exact h.left_eq
theorem Rk.lt(h:Rk Y mk f m w r cnt left):r<w.heap.size:=by
 rcases h with⟨-,-,-,a,s,b,h⟩|⟨b,n,D,left,-,h,-⟩
 ·exact(Vp.1 h).1
 ·exact h.lt
theorem Rk.below(h:Rk Y mk f m w r cnt left)(hb:fj w w'):Rk Y mk f m w' r cnt left:=by
 have hr:=h.lt;rcases h with⟨h1,h2,h0,a,s,b,h⟩|⟨b,n,D,lf,h1,h,h3,h4⟩
 ·exact .inl ⟨h1,h2,h0,a,s,b,(hb.block r hr).trans h⟩
 ·exact .inr ⟨b,n,D,lf,h1,h.kept (row:=none) ⟨hb.os,hb.tape,hb.output,hb.size,fun k hk _=>hb.block k hk⟩ (by simp) (by simp),h3,h4⟩
theorem Rk.grown(h:Rk Y mk f m w r cnt left){q:Nat}(hg:w.grownBy w' (some q))(hm:∀ b,m=some b->b≠q)(hr:r≠q):Rk Y mk f m w' r cnt left:=by
 have h5:=h.lt;rcases h with⟨h1,h2,h0,a',s,b,h⟩|⟨b,n,D,lf,h1,h,h3,h4⟩
 ·exact .inl ⟨h1,h2,h0,a',s,b,(hg.block r h5 (fun e=>hr (ve e))).trans h⟩
 ·exact .inr ⟨b,n,D,lf,h1,h.kept hg (fun e=>hm b h1 (ve e)) (fun e=>hr (ve e)),h3,h4⟩
theorem Rk.but{X:Nat->Prop}(h:Rk Y mk f m w r cnt left)(ho:But X w w')(hm:∀ b,m=some b->¬ X b)(hr:¬ X r):Rk Y mk f m w' r cnt left:=by
 have h5:=h.lt;rcases h with⟨h1,h2,h0,a',s,b,h⟩|⟨b,n,D,lf,h1,h,h3,h4⟩
 ·exact .inl ⟨h1,h2,h0,a',s,b,(ho.block r h5 hr).trans h⟩
 ·obtain⟨es,clock,since,seen,c0,hb,F,hs,hD,h7,rest⟩:=h;have h6:b<w.heap.size:=(Vp.1 hb).1;exact .inr ⟨b,n,D,lf,h1,⟨es,clock,since,seen,c0,(ho.block b h6 (hm b h1)).trans hb,F,hs,hD,(ho.block r h5 hr).trans h7,rest⟩,h3,h4⟩
theorem Rk.set(h:Rk Y mk f m w r cnt left){a:Addr}(u:Value)(hm:∀ b,m=some b->b≠a.block)(hr:r≠a.block):Rk Y mk f m (w.setCell a u) r cnt left:=
 h.grown (q:=a.block) ⟨rfl,rfl,rfl,by simp,fun k hk h0=>QO _ _ _ _ (fun e=>h0 (by rw[e]))⟩ hm hr
theorem Rk.low(h:Rk Y mk f m w r cnt left){B:Nat}(hb:Below B w w')(hz:w.heap.size<=w'.heap.size)(hm:∀ b,m=some b->b<B)(hr:r<B):Rk Y mk f m w' r cnt left:=
 h.but (X:=fun k=>B<=k) ⟨hb.os,hb.tape,hb.output,hz,fun k hk hx=>hb.block k (by omega)⟩ (fun b e=>by have:=hm b e;omega) (by omega)
theorem Mv.rangeK(h:Mv Y mk w m n f){T E:TypeId}(ht:prog.underlying T=some (.map Y.K E)):
  ∃w' cnt,(Instr.range T (.map m)).run prog w=.ok (.pointer (some ⟨w.heap.size,0,none⟩)) w'/\Rk Y mk f m w' w.heap.size cnt (fun x=>Y.wf x/\(f x).isSome=true)/\cnt<=n/\fj w w'/\w'.heap.size=w.heap.size+1:=by
 rcases h with⟨rfl,h⟩|⟨b,D,rfl,h2,h3⟩
 ·exact⟨_,0,run_range_nilMap w T _ E ht,.inl ⟨rfl,rfl,(fun x hx=>by have h2:=hx.2;rw[h x]at h2;cases h2),_,_,_,heap_alloc_new w _⟩,vf _,fh.alloc fi _,by simp⟩
 ·obtain⟨w',h0,r1,r2,r3⟩:=h2.range Y.law ht;refine⟨w',_,h0,.inr ⟨b,n,D,_,rfl,r1,h3,fun x hx=>?_⟩,?_,⟨r2.os,r2.tape,r2.output,r2.size,fun k hk=>r2.block k hk (by simp)⟩,r3⟩
  ·rw[(h3 x hx).1];exact⟨fun h=>h.2,fun h=>⟨hx,h⟩⟩
  ·obtain⟨es,clock,hb,F,hs,rfl⟩:=h2;simp only[Maps.size,length_sorted,KS,Wh];exact hs
theorem Rk.next(h:Rk Y mk f m w r cnt left)(ty:TypeId):
  (cnt=0/\(∀x,Y.wf x->¬ left x)/\(Instr.next (.pointer (some ⟨r,0,none⟩)) false ty).run prog w=.ok (.tuple #[.bool false]) w)\/
  ∃x c w' cnt',Y.wf x/\left x/\f x=some c/\(Instr.next (.pointer (some ⟨r,0,none⟩)) false ty).run prog w=.ok (.tuple #[.bool true,Y.mv x,mk c]) w'/\Rk Y mk f m w' r cnt' (fun y=>left y/\y≠x)/\cnt'<cnt/\w.grownBy w' (some r)/\w'.heap.size=w.heap.size/\
   (Instr.entry (.pointer (some ⟨r,0,none⟩))).run prog w'=.ok (.tuple #[Y.mv x,mk c]) w':=by
 rcases h with⟨h1,h2,h0,a,s,b,h⟩|⟨b,n,D,lf,h1,h,h3,h4⟩
 ·refine .inl ⟨h2,fun x _=>h0 x,?_⟩;simp only[Instr.next,getObj,Sem.run_bind,Sem.run,h,Result.andThen]
  rfl
 ·rcases h.next Y.law ty with⟨k1,k2,k3⟩|⟨key,v,kl,y,w',cnt',k1,k2,k3,k4,k5,k6,k7,k8,k9,k10⟩
  ·exact .inl ⟨k1,(fun x hx hl=>by have h5:=(h4 x hx).1 hl;rw[k2]at h5;cases h5),k3⟩
  ·obtain⟨x,rfl,hx,rfl⟩:=Y.inv key kl k1;obtain⟨⟨c,rfl⟩,hy⟩:=ug k3;obtain⟨d,hf,hd⟩:∃ d,f x=some d/\mk c=mk d:=by
    obtain⟨q1,q2⟩:=h3 x hx;have hh:Maps.has D (Y.kl x)=true:=Maps.has_true_of_atKey k4;rw[hh]at q1;cases h6:f x with
    |none=>rw[h6]at q1;cases q1
    |some d=>
     have h5:=(k4 (.held (mk c))).symm.trans (q2 d h6 (.held (mk c)));rw[hy]at h5;exact⟨d,rfl,qM h5⟩
   rw[hd]at k5 k10;refine .inr ⟨x,d,w',cnt',hx,(h4 x hx).2 k2,hf,k5,.inr ⟨b,n,D,_,h1,k6,h3,fun z hz=>?_⟩,k7,k8,k9,k10⟩
   show(left z/\z≠x)↔_
   rw[h4 z hz];constructor
   ·rintro⟨g1,g2⟩;have g3:(Y.kl z).sameKey (Y.kl x)=false:=by
     cases hk:(Y.kl z).sameKey (Y.kl x)with
     |false=>rfl
     |true=>exact absurd (Y.inj z x hz hx (WideAt.sameKey_eq hk)) g2
    simp[g1,g3]
   ·intro g;simp only[Wj,Bool.not_eq_true']at g;refine⟨g.1,fun e=>?_⟩;subst e;rw[WideAt.sameKey_self (Y.isKey hz)]at g;exact absurd g.2 (by decide)
end
def KX(t a b:Int):Int:=if t=4 then 1 else if t=1/\a=0 then 10 else if t=3/\b=0 then 10 else if t=2/\(a=0\/b=0)then 5 else if a=0\/b=0 then 1 else 0
theorem UI(t a b:Int):0<=KX t a b/\KX t a b<=10:=by
 unfold KX
 repeat' split
 all_goals omega
theorem UJ(t:Int)(h:1<=t/\t<=4):0<KX t 0 1:=by
 unfold KX
 repeat' split
 all_goals omega
def jd(t fl a b:Int):Int×Int->Option Int:=fun x=>if(0<=x.1/\0<=x.2/\(x.1<a/\x.2<fl\/x.1=a/\x.2<b))/\x.1≠x.2/\KX t x.1 x.2≠0 then some (KX t x.1 x.2)else none
theorem XH(t fl:Int):jd t fl 0 0=fun _=>none:=by
 funext x;unfold jd;rw[if_neg];intro h;omega
theorem yJ{t fl a b a' b':Int}(h:∀ x y:Int,0<=x->0<=y->x≠y->((x<a/\y<fl\/x=a/\y<b)↔(x<a'/\y<fl\/x=a'/\y<b'))):jd t fl a b=jd t fl a' b':=by
 funext x
 unfold jd;by_cases h0:0<=x.1/\0<=x.2/\x.1≠x.2
 ·have h1:=h x.1 x.2 h0.1 h0.2.1 h0.2.2;by_cases h2:x.1<a/\x.2<fl\/x.1=a/\x.2<b
  ·have h3:=h1.1 h2;simp only[h2,h3,h0,ne_eq,true_and,not_false_eq_true]
  ·have h3:¬ (x.1<a'/\x.2<fl\/x.1=a'/\x.2<b'):=fun h=>h2 (h1.2 h)
   rw[if_neg (fun h=>h2 h.1.2.2),if_neg (fun h=>h3 h.1.2.2)]
 ·rw[if_neg (fun h=>h0 ⟨h.1.1,h.1.2.1,h.2.1⟩),if_neg (fun h=>h0 ⟨h.1.1,h.1.2.1,h.2.1⟩)]
theorem UK(t fl a:Int):jd t fl a fl=jd t fl (a+1) 0:=yJ fun x y hx hy _=>by omega
theorem XI(t fl a:Int):jd t fl a a=jd t fl a (a+1):=yJ fun x y hx hy _=>by omega
theorem UL(t fl a b:Int)(hab:a≠b)(ha:0<=a)(hb:0<=b):upd (jd t fl a b) (a,b) (if KX t a b=0 then none else some (KX t a b))=jd t fl a (b+1):=by
 funext x
 unfold upd;by_cases hx:x=(a,b)
 ·subst hx;rw[if_pos rfl];unfold jd;by_cases hw:KX t a b=0
  ·rw[if_pos hw,if_neg (fun h=>h.2.2 hw)]
  ·rw[if_neg hw,if_pos ⟨⟨ha,hb,.inr ⟨rfl,by show b<b+1;omega⟩⟩,hab,hw⟩]
 ·rw[if_neg hx];unfold jd;have h1:(x.1<a/\x.2<fl\/x.1=a/\x.2<b)↔(x.1<a/\x.2<fl\/x.1=a/\x.2<b+1):=by
   have:¬ (x.1=a/\x.2=b):=fun h=>hx (Prod.ext h.1 h.2)
   omega
  simp only[h1]
theorem Zd{t fl a b c:Int}{x:Int×Int}(h:jd t fl a b x=some c):0<=x.1/\0<=x.2/\(x.1<a/\x.2<fl\/x.1=a/\x.2<b)/\x.1≠x.2/\0<c/\c<=10:=by
 unfold jd at h;split at h
 ·rename_i h0;cases h;have:=UI t x.1 x.2;refine⟨h0.1.1,h0.1.2.1,h0.1.2.2,h0.2.1,?_,this.2⟩;have:=h0.2.2;omega
 ·cases h
theorem KY(t fl:Int)(ht:1<=t/\t<=4)(hf:2<=fl):jd t fl fl 0 (0,1)=some (KX t 0 1):=by
 have:=UJ t ht;unfold jd;rw[if_pos];exact⟨⟨by decide,by decide,.inl ⟨by show 0<fl;omega,by show 1<fl;omega⟩⟩,by decide,by show KX t 0 1≠0;omega⟩
end
end Go.Proofs.YtdeogmbfgkepeaaGreatDoor
