/- Contracts for WholeDelivers. -/
import Derived.Shelf.Abstract
import Derived.Test.YtdeogmbfgkepeaaGreatDoorR16
import Derived.Test.YtdeogmbfgkepeaaGreatDoorR20
set_option linter.unusedVariables false
set_option linter.unusedSimpArgs false
set_option maxRecDepth 100000
set_option maxHeartbeats 64000000
namespace Go.Proofs.YtdeogmbfgkepeaaGreatDoor
open Go.Proofs.Tryz
open Go.Value renaming int->O
open Go.IntKind renaming i64->J
section
open Go.RowKit HB
structure Tj where
 (k:Int)
 tx:iY
 (n ln cl:Int)
abbrev qR(t:Tj):iZ:=[O J t.k,.string t.tx,O J t.n,O J t.ln,O J t.cl]
def Tj.core(t:Tj):LexP.Tc:=(t.k,t.tx.data.toList,t.n)
theorem qA(t:Tj):(qR t).length=5:=rfl
theorem Token.info:(prog.info? 196).map (fun i=>(i.zero,i.size,i.bytes))=some (some (.agg #[O J 0,.string ⟨#[]⟩,O J 0,O J 0,O J 0]),5,48):=by kernel_rfl
abbrev VO(s:iY)(at_ ln cl:Int)(v:Value):iZ:=[.string s,O J at_,O J ln,O J cl,v]
def ef(g:FuncId)(c:Int)(b:Bool):Prop:=∀ W:l6,Calls prog g #[.int .u8 c] W (fm (.bool b) W)
theorem ko(c:Int)(b:Bool)(h:b=true↔97<=c/\c<=122):ef 169 c b:=fun w=>by
 have H:=ze h;clear h;by_cases h1:97<=c
 ·by_cases h2:c<=122
  ·have hb:=H.o.2 ⟨h1,h2⟩;subst hb;go_enter func169,ntmps169;go_wp2_with fail;go_ret;exact⟨rfl,rfl⟩
  ·have hb:b=false:=by cases b;rfl;exact absurd (H.o.1 rfl).2 h2
   subst hb;have h2:decide (c<=122)=false:=by simpa using h2
   go_enter func169,ntmps169;go_wp2_with fail;go_ret;exact⟨rfl,rfl⟩
 ·have hb:b=false:=by cases b;rfl;exact absurd (H.o.1 rfl).1 h1
  subst hb;have h1:decide (97<=c)=false:=by simpa using h1
  go_enter func169,ntmps169;go_wp2_with fail;go_ret;exact⟨rfl,rfl⟩
theorem xJ(c:Int)(b:Bool)(h:b=true↔48<=c/\c<=57):ef 170 c b:=fun w=>by
 have H:=ze h;clear h;by_cases h1:48<=c
 ·by_cases h2:c<=57
  ·have hb:=H.o.2 ⟨h1,h2⟩;subst hb;go_enter func170,ntmps170;go_wp2_with fail;go_ret;exact⟨rfl,rfl⟩
  ·have hb:b=false:=by cases b;rfl;exact absurd (H.o.1 rfl).2 h2
   subst hb;have h2:decide (c<=57)=false:=by simpa using h2
   go_enter func170,ntmps170;go_wp2_with fail;go_ret;exact⟨rfl,rfl⟩
 ·have hb:b=false:=by cases b;rfl;exact absurd (H.o.1 rfl).1 h1
  subst hb;have h1:decide (48<=c)=false:=by simpa using h1
  go_enter func170,ntmps170;go_wp2_with fail;go_ret;exact⟨rfl,rfl⟩
theorem Zr(w:l6):Calls prog 165 #[.int .u8 32] w (fm (.bool true) w):=by
 go_in
 go_wp2_with fail;go_ret;exact⟨rfl,rfl⟩
theorem kp(c:Int)(h0:(c==32)=false)(h1:(c==9)=false)(h2:(c==13)=false)(w:l6):Calls prog 165 #[.int .u8 c] w (fm (.bool false) w):=by
 go_in
 go_wp2_with fail;go_ret;exact⟨rfl,rfl⟩
theorem uG(q:Nat)(s:iY)(at_ ln cl n:Int)(v:Value)(w:l6)(h:Bx w q (VO s at_ ln cl v))(h0:0<=at_)(h1:at_+n<=100000000)(h2:0<=n)(h3:0<=cl)(h4:cl+n<=100000000):
  Calls prog 166 #[.pointer (some ⟨q,0,none⟩),O J n] w fun e w'=>e=.returned (.tuple #[])/\Bx w' q (VO s (at_+n) ln (cl+n) v)/\But (fun k=>k=q) w w':=by
 have H:=ze h;obtain⟨⟨c0,c1,c2,c3,c4⟩,f0,f1,f2,f3,f4⟩:=h.o5;clear h
 go_in
 go_wp2_with fail;go_end0;exact⟨rfl,(H.o.set 1 _).set 3 _,((But.refl (fun k=>k=q) w).at1 rfl _ _).at1 rfl _ _⟩
theorem Yb(g:FuncId)(eg:∀ args w,(callFunc g args).run prog w=.ok (.enter g args) w)(q:Nat)(s:iY)(at_ n:Nat)(ln cl:Int)(v:Value)(w:l6)(h:Bx w q (VO s at_ ln cl v))(hs:s.size<=1000000)(hn:at_+n<=s.size)
  (hT:∀ i(h:i<s.size),at_<=i->i<at_+n->ef g ((s[i]'h).toNat:Int) true)(hF:∀ h:at_+n<s.size,ef g ((s[at_+n]'h).toNat:Int) false):
  Calls prog 167 #[.pointer (some ⟨q,0,none⟩),.func (.func g) #[] #[]] w (fk (.string (s.extract at_ (at_+n))) w):=by
 have HT:=ze hT;have HF:=ze hF;obtain⟨⟨c0,c1,c2,c3,c4⟩,f0,f1,f2,f3,f4⟩:=h.o5;clear h hT hF f0 f1 f2 f3 f4 c2 c3 c4
 go_in
 go_wp2_with fail
 go_loopw [5] (fun i wr=>∃ j:Nat,at_<=j/\j<=at_+n/\i=O J j/\wr=w) (fun i _=>s.size+1-(intOf i).toNat)
 case atStart=>exact⟨at_,by omega,by omega,rfl,rfl⟩
 case round=>
  obtain⟨j,h0,h3,rfl,rfl⟩:=hrel;by_cases h2:j<at_+n
  ·have h1:j<s.size:=by omega
   have HC:=ze (HT.o j h1 h0 h2);have b0:(0:Int)<=(j:Int):=by omega
   have b1:(j:Int)<(s.size:Int):=by omega
   go_wp2_with(go_at_fn g;refine(HC.o _).mono ?_;rintro r w1 ⟨rfl,rfl⟩);go_roundw
   case rel=>exact⟨j+1,by omega,by omega,by go_num,trivial⟩
   case measure=>simp[intOf];omega
  ·obtain rfl:j=at_+n:=by omega
   have b0:(0:Int)<=((at_+n:Nat):Int):=by omega
   have b1:(at_:Int)<=((at_+n:Nat):Int):=by omega
   have b2:((at_+n:Nat):Int)<=(s.size:Int):=by omega
   have b3:(0:Int)<=(at_:Int):=by omega
   rcases YF (at_+n) s.size with hl|hl
   ·have HC:=ze (HF.o hl);have b4:((at_+n:Nat):Int)<(s.size:Int):=by omega
    go_wp2_with(go_at_fn g;refine(HC.o _).mono ?_;rintro r w1 ⟨rfl,rfl⟩);go_quiet(fail);go_wp2_with fail;go_ret;exact⟨rfl,zg fh _⟩
   ·have b4:decide (((at_+n:Nat):Int)<(s.size:Int))=false:=by simp;omega
    go_wp2_with fail;go_quiet(fail);go_wp2_with fail;go_ret;exact⟨rfl,zg fh _⟩
end
section
open Go.RowKit HB DigP
abbrev Tj.v(t:Tj):Value:=.agg #[O J t.k,.string t.tx,O J t.n,O J t.ln,O J t.cl]
theorem VP(N:Nat)(hN:N<=1073741824)(q:Nat)(s:iY)(at_ ln cl:Int)(v:Value)(w:l6)(h:Bx w q (VO s at_ ln cl v)):Calls prog 171 #[.pointer (some ⟨q,0,none⟩),.string (jh N)] w (fk (.tuple #[Tj.v ⟨2,jh N,N,ln,cl⟩,O J 0]) w):=by
 have hz:=kR N (by omega);have h3:0<(jh N).size:=by have:=qh N;simpa[jh,ByteArray.size]using this
 have hall:=Y6 N;have h4:(jN N).length=(jh N).size:=by simp[jh,ByteArray.size]
 have h8:=ze (JY N);have h9:=ze (Kl N h3);have h0:=JY N 0 h3;have hq:=h.lt (by simp);have h5:=ze h;have key:((((jh N)[0].toNat:Int)==48)=false/\True)\/(decide ((1:Int)<((jh N).size:Int))=false/\(jh N).size=1):=by
  by_cases h1:1<(jh N).size
  ·left;have:=h9.o h1;refine⟨?_,trivial⟩;simp;omega
  ·right;exact⟨by simp;omega,by omega⟩
 clear h0 h;rcases key with⟨k1,-⟩|⟨k1,k2⟩
 all_goals
  go_in
  go_wp2_with fail
  go_loopw [6,10] (fun n i wr=>∃(j:Nat),j<=(jh N).size/\i=O J j/\n=O J (val ((jN N).take j))/\wr=w.alloc (.cells #[O J 0,.string ⟨#[]⟩,O J 0,O J 0,O J 0] 196)) (fun _ i _=>(jh N).size-(intOf i).toNat)
  case atStart=>exact⟨0,vf _,rfl,rfl,rfl⟩
  case round=>
   obtain⟨j,hj,rfl,rfl,h7⟩:=hrel;have h6:=ze h7;clear h7;by_cases hc:j<(jh N).size
   ·obtain⟨a1,a2,a3⟩:=h8.o j hc;have ha:=QZ (jN N) (j+1);rw[hall,a3]at ha;have e1:val ((jN N).take (j+1))=val ((jN N).take j)*10+((jh N)[j].toNat-48):=a3;have b1:decide ((1073741824:Int)<(val ((jN N).take j):Int)*10+(((jh N)[j].toNat:Int)-48))=false:=by simp;omega
    go_wp2_with fail;refine⟨⟨j+1,by omega,by go_num,by rw[a3];refine congrArg _ ?_;omega,h6.o⟩,?_⟩;simp[intOf];omega
   ·obtain rfl:j=(jh N).size:=by omega
    have h2:val ((jN N).take (jh N).size)=N:=by rw[<-h4,UZ,hall]
    generalize val ((jN N).take (jh N).size)=v0 at h2⊢;subst h2;have hw:=h6.o;subst hw;have hd:=ze (h5.o.alloc (by simp) (.cells #[O J 0,.string ⟨#[]⟩,O J 0,O J 0,O J 0] 196));obtain⟨⟨c0,c1,c2,c3,c4⟩,-⟩:=h5.o.o5;go_wp2_with fail
    all_goals
     go_region
     all_goals
      go_wp2_with fail;refine bodyPost_ret (v:=.tuple #[Tj.v ⟨2,jh v0,v0,ln,cl⟩,O J 0]) (by rw[results_cell_tmp rfl];go_simp) rfl ⟨rfl,?_⟩
      go_grown
end
section
open Go.RowKit HB Go.Maps CalP
theorem uj(t:Tj):∀ u∈qR t,u.oneCell'=true:=by intro u hu;simp only[qR,qx,Zl,or_false]at hu;rcases hu with rfl|rfl|rfl|rfl|rfl<;>rfl
structure Scn(w:l6)(base q:Nat)(s:iY)(at_:Nat)(ln cl:Int)(v:Value)(T:List Tj):Prop where
 q0:base<=q
 bx:Bx w q (VO s at_ ln cl v)
 own:Own w base 196 5 qR v T
 ne:∀ k,v.ownBlock=some k->k≠q
structure Sok(at_:Nat)(ln cl:Int)(T:List Tj):Prop where
 l0:0<=ln
 l1:ln<=at_+1
 c0:0<=cl
 c1:cl<=at_+1
 tl:T.length<=at_
section
variable{w w' w1 w7:l6}{base q:Nat}{s:iY}{at_ at2:Nat}{ln cl ln2 cl2:Int}{v v':Value}{T:List Tj}
theorem Scn.ql(h:Scn w base q s at_ ln cl v T):q<w.heap.size:=h.bx.lt (by simp)
theorem Scn.moved(h:Scn w base q s at_ ln cl v T)(hb:But (fun k=>k=q) w w')(hx:Bx w' q (VO s at2 ln2 cl2 v)):Scn w' base q s at2 ln2 cl2 v T:=
 ⟨h.q0,hx,h.own.but hb (fun k hk e=>h.ne k hk e),h.ne⟩
theorem Scn.below(h:Scn w base q s at_ ln cl v T)(hb:fj w w'):Scn w' base q s at_ ln cl v T:=
 ⟨h.q0,h.bx.below hb h.ql,h.own.below hb,h.ne⟩
theorem Scn.low(h:Scn w base q s at_ ln cl v T)(hb:But (fun k=>k=q) w w'):Below base w w':=hb.below (fun k e=>e▸h.q0) (by have:=h.ql;have:=h.q0;omega)
theorem Scn.push{t:Tj}(h:Scn w base q s at_ ln cl v T)(hb:fj w w1)(k1:Own w7 base 196 5 qR v' (T++[t]))(k2:w1.grownBy w7 v.ownBlock)(k3:v'.ownBlock=v.ownBlock\/v'.ownBlock=some w1.heap.size):
  Bx w7 q (VO s at_ ln cl v)/\Scn (w7.setCell ⟨q,4,none⟩ v') base q s at_ ln cl v' (T++[t])/\Below base w (w7.setCell ⟨q,4,none⟩ v'):=by
 have hq:=h.ql;have h0:=h.q0;have hz:=hb.size;have hx:Bx w7 q (VO s at_ ln cl v):=(h.bx.below hb hq).block (k2.block q (by omega) (fun e=>h.ne q e.symm rfl));have hn:∀ k,v'.ownBlock=some k->k≠q:=fun k hk=>by
  rcases k3 with e|e
  ·exact h.ne k (e▸hk)
  ·rw[e]at hk;cases hk;omega
 refine⟨hx,⟨h0,hx.set 4 v',k1.but ((But.refl (fun k=>k=q) w7).at1 rfl _ _) (fun k hk e=>hn k hk e),hn⟩,?_⟩;refine(((hb.mono (by omega)).trans ((Below.refl base w1).grown k2 (by omega) fun k hk=>(h.own.row.lt k hk).1)).setCell (p:=⟨q,4,none⟩) h0 _)
end
def WV(base q:Nat)(s:iY)(w:l6)(at_:Nat)(C:List LexP.Tc)(e:Ending)(w':l6):Prop:=
 e=.returned (O J 0)/\Below base w w'/\∃ ln cl v T,Scn w' base q s at_ ln cl v T/\Sok at_ ln cl T/\T.map Tj.core=C
theorem xK(T:List Tj)(t:Tj):(T++[t]).map Tj.core=T.map Tj.core++[t.core]:=by simp
theorem VQ(base q:Nat)(s:iY)(at_:Nat)(ln cl:Int)(v:Value)(T:List Tj)(w:l6)(h:Scn w base q s at_ ln cl v T)(hk:Sok at_ ln cl T)(hat:at_<s.size)(hs:s.size<=1000000)(hc:((s[at_]'hat).toNat:Int)=32):
  Calls prog 132 #[.pointer (some ⟨q,0,none⟩)] w (WV base q s w (at_+1) (T.map Tj.core)):=by
 have H:=ze h;have HK:=ze hk;have h6:=h.q0;have h8:=h.ql;have h3:base<=w.heap.size:=by omega
 have h5:=ze (show T.length<=1000000000 by have:=hk.tl;omega);obtain⟨l0,l1,cc0,cc1,tl⟩:=hk;obtain⟨⟨c0,c1,-⟩,-⟩:=h.bx.o5;have a0:(0:Int)<=(at_:Int):=by omega
 have a1:(at_:Int)<(s.size:Int):=by omega
 clear h;have h2:=ze (fun W(hw:Bx W q (VO s at_ ln cl v))=>uG q s at_ ln cl 1 v W hw (by omega) (by omega) (by omega) (by omega) (by omega))
 go_in
 go_wp2_with fail;go_quiet(fail);refine zq (w:=w) (fun W=>Scn W base q s at_ ln cl v T) (H.o.below (zg fh nq)) (zg fh nq) ?_;rintro V hV h0;have HV:=ze hV;have h1:=ze (h0.mono h3);have h7:=hV.ql;have h4:base<=V.heap.size:=by omega
 obtain⟨⟨c0,c1,c2,c3,c4⟩,f0,f1,f2,f3,f4⟩:=hV.bx.o5;clear hV h0;go_wp2_with(first
  |(go_at_call 165;(refine(Zr _).mono ?_);rintro r w1 ⟨rfl,e9⟩;have e8:=e9.symm;clear e9;subst e8)
  |(go_at_call 166;(refine(h2.o _ HV.o.bx).mono ?_);rintro r w1 ⟨rfl,hx,hb⟩;have HX:=ze hx;have HB:=ze hb;clear hx hb))
 go_ret;refine⟨rfl,h1.o.trans (HV.o.low HB.o),_,_,v,T,HV.o.moved HB.o (at2:=at_+1) HX.o,?_,rfl⟩;have:=HK.o;exact⟨this.l0,by have:=this.l1;omega,by have:=this.c0;omega,by have:=this.c1;omega,by have:=this.tl;omega⟩
theorem VR(base q:Nat)(s:iY)(at_:Nat)(ln cl:Int)(v:Value)(T:List Tj)(w:l6)(h:Scn w base q s at_ ln cl v T)(hk:Sok at_ ln cl T)(hat:at_<s.size)(hs:s.size<=1000000)(hc:((s[at_]'hat).toNat:Int)=10):
  Calls prog 132 #[.pointer (some ⟨q,0,none⟩)] w (WV base q s w (at_+1) (T.map Tj.core++[(3,[],0)])):=by
 have H:=ze h;have HK:=ze hk;have h1:=h.q0;have ha:=h.ql;have h7:base<=w.heap.size:=by omega
 have h6:=ze (show T.length<=1000000000 by have:=hk.tl;omega);obtain⟨l0,l1,cc0,cc1,tl⟩:=hk;obtain⟨⟨c0,c1,-⟩,-⟩:=h.bx.o5;have a0:(0:Int)<=(at_:Int):=by omega
 have a1:(at_:Int)<(s.size:Int):=by omega
 clear h
 go_in
 go_wp2_with fail;go_quiet(fail);refine zq (w:=w) (fun W=>Scn W base q s at_ ln cl v T) (H.o.below (zg fh nq)) (zg fh nq) ?_;rintro V hV h2;have HV:=ze hV;have h5:=ze (h2.mono h7);have h9:=hV.ql;have h8:base<=V.heap.size:=by omega
 obtain⟨⟨c0,c1,c2,c3,c4⟩,f0,f1,f2,f3,f4⟩:=hV.bx.o5;clear hV h2;go_wp2_with(first
  |(go_at_call 165;(refine(kp 10 rfl rfl rfl _).mono ?_);rintro r w1 ⟨rfl,e9⟩;have e8:=e9.symm;clear e9;subst e8))
 go_region_law (first|(refine jn (P:=prog) rfl _ _ 191 rfl underlying191 Token.info rfl (by omega) (by omega) rfl ((HV.o.own.drew).alloc _) (⟨3,⟨#[]⟩,0,ln,cl⟩:Tj) ⟨_,0,none⟩ 1 rfl rfl (zr _ _ (qR (⟨3,⟨#[]⟩,0,ln,cl⟩:Tj)) _ rfl) (uj _) h6.o (by simp;omega) ?_;intro v7 w7 k1 k2 k3;obtain⟨A7,k7,h4,h0,-⟩:=Own.shape k1;obtain⟨n7,h3⟩:∃ n7,n7=(T++[(⟨3,⟨#[]⟩,0,ln,cl⟩:Tj)]).length:=⟨_,rfl⟩;rw[<-h3]at h4 h0;subst h4;clear h3;have hA:=((Below.refl V.heap.size V).drew.alloc fi (.cells (qR (⟨3,⟨#[]⟩,0,ln,cl⟩:Tj)).toArray 196));have HP:=ze (HV.o.push hA k1 k2 k3);obtain⟨⟨d0,d1,d2,d3,d4⟩,e0,e1,e2,e3,e4⟩:=HP.o.1.o5;clear k1 k2 k3 hA))
 all_goals
  go_wp2_with fail;go_ret;have:=HK.o;exact⟨rfl,h5.o.trans (HP.o.2.2.trans (((Below.refl base _).setCell (p:=⟨q,1,none⟩) h1 _).setCell (p:=⟨q,2,none⟩) h1 _ |>.setCell (p:=⟨q,3,none⟩) h1 _)),ln+1,1,_,_,HP.o.2.1.moved (at2:=at_+1) ((((But.refl (fun k=>k=q) _).at1 rfl _ _).at1 rfl _ _).at1 rfl _ _) (((HP.o.2.1.bx.set 1 _).set 2 _).set 3 _),⟨by have:=this.l0;omega,by have:=this.l1;omega,by omega,by omega,by have:=this.tl;simp;omega⟩,xK _ _⟩
theorem VS(base q:Nat)(s:iY)(at_:Nat)(ln cl:Int)(v:Value)(T:List Tj)(w:l6)(h:Scn w base q s at_ ln cl v T)(hk:Sok at_ ln cl T)(hat:at_<s.size)(hs:s.size<=1000000)(n:Nat)(tx:iY)(htx:tx=s.extract at_ (at_+n))(hsz:tx.size=n)(hn0:0<n)(hn:at_+n<=s.size)(hl:∀ i(h:i<s.size),at_<=i->i<at_+n->97<=(s[i]'h).toNat/\(s[i]'h).toNat<=122)(he:∀ h:at_+n<s.size,¬(97<=(s[at_+n]'h).toNat/\(s[at_+n]'h).toNat<=122)):
  Calls prog 132 #[.pointer (some ⟨q,0,none⟩)] w (WV base q s w (at_+n) (T.map Tj.core++[(1,tx.data.toList,0)])):=by
 have H:=ze h;have HK:=ze hk;have hv:=h.q0;have hz:=h.ql;have ho:base<=w.heap.size:=by omega
 have hm:=ze (show T.length<=1000000000 by have:=hk.tl;omega);obtain⟨l0,l1,cc0,cc1,tl⟩:=hk;obtain⟨⟨c0,c1,-⟩,-⟩:=h.bx.o5;have a0:(0:Int)<=(at_:Int):=by omega
 have a1:(at_:Int)<(s.size:Int):=by omega
 clear h;have hc:=hl at_ hat (by omega) (by omega);have k0:(((s[at_]'hat).toNat:Int)==32)=false:=by simp;omega
 have k1:(((s[at_]'hat).toNat:Int)==9)=false:=by simp;omega
 have k2:(((s[at_]'hat).toNat:Int)==13)=false:=by simp;omega
 have k3:(((s[at_]'hat).toNat:Int)==35)=false:=by simp;omega
 have k4:(((s[at_]'hat).toNat:Int)==10)=false:=by simp;omega
 have h5:=ze (fun W(hw:Bx W q (VO s at_ ln cl v))=>htx▸Yb 169 (enters_of func169 (by kernel_rfl) rfl) q s at_ n ln cl v W hw hs hn (fun i hi h0 h1=>ko _ _ (by have:=hl i hi h0 h1;simp;omega)) (fun hi=>ko _ _ (by have:=he hi;simp;omega)));have hg:=ze (fun W v(hw:Bx W q (VO s at_ ln cl v))=>uG q s at_ ln cl (tx.size:Int) v W hw (by omega) (by omega) (by omega) (by omega) (by omega));have ht:tx.size<=1000000:=by omega
 have hj:=ze hsz;have HN:=ze hn;clear htx hl he hsz hn;have hf:=ze (ko ((s[at_]'hat).toNat:Int) true (by simp;omega));clear hc
 go_in
 go_wp2_with fail;go_quiet(fail);refine zq (w:=w) (fun W=>Scn W base q s at_ ln cl v T) (H.o.below (zg fh nq)) (zg fh nq) ?_;rintro V hV h8;have HV:=ze hV;have hd:=ze (h8.mono ho);have hy:=hV.ql;have h6:base<=V.heap.size:=by omega
 obtain⟨⟨c0,c1,c2,c3,c4⟩,f0,f1,f2,f3,f4⟩:=hV.bx.o5;clear hV h8;go_upto_region 13 with(first
  |(go_at_call 165;(refine(kp _ k0 k1 k2 _).mono ?_);rintro r w1 ⟨rfl,e9⟩;have e8:=e9.symm;clear e9;subst e8)
  |(go_at_call 169;(refine(hf.o _).mono ?_);rintro r w1 ⟨rfl,e9⟩;have e8:=e9.symm;clear e9;subst e8)
  |(go_at_call 167;(refine(h5.o _ HV.o.bx).mono ?_);rintro r V2 ⟨rfl,hb⟩;have h3:=ze (HV.o.below hb);have h4:=ze (hd.o.trans (hb.mono h6));have hq:=h3.o.ql;have hp:base<=V2.heap.size:=(by omega);clear hb c0 c1 c2 c3 c4 f0 f1 f2 f3 f4;obtain⟨⟨c0,c1,c2,c3,c4⟩,f0,f1,f2,f3,f4⟩:=h3.o.bx.o5))
 go_region_law (first|(refine jn (P:=prog) rfl _ _ 191 rfl underlying191 Token.info rfl (by omega) (by omega) rfl ((h3.o.own.drew).alloc _) (⟨1,tx,0,ln,cl⟩:Tj) ⟨_,0,none⟩ 1 rfl rfl (zr _ _ (qR (⟨1,tx,0,ln,cl⟩:Tj)) _ rfl) (uj _) hm.o (by simp;omega) ?_;intro v7 w7 k1 k2 k3;obtain⟨A7,k7,ha,h7,-⟩:=Own.shape k1;obtain⟨n7,h9⟩:∃ n7,n7=(T++[(⟨1,tx,0,ln,cl⟩:Tj)]).length:=⟨_,rfl⟩;rw[<-h9]at ha h7;subst ha;clear h9;have hA:=((Below.refl V2.heap.size V2).drew.alloc fi (.cells (qR (⟨1,tx,0,ln,cl⟩:Tj)).toArray 196));have h2:=ze (h3.o.push hA k1 k2 k3);obtain⟨⟨d0,d1,d2,d3,d4⟩,e0,e1,e2,e3,e4⟩:=h2.o.1.o5;clear k1 k2 k3 hA))
 all_goals
  go_wp2_with(first
   |(go_at_call 166;(refine(hg.o _ _ h2.o.2.1.bx).mono ?_);rintro r w1 ⟨rfl,hx,hb⟩;have HX:=ze hx;have HB:=ze hb;clear hx hb))
  go_ret;have:=HK.o;have hr:=hj.o;have hu:=HN.o;have HM:=ze (h2.o.2.1.moved (at2:=at_+n) HB.o (hr▸HX.o));exact⟨rfl,h4.o.trans (h2.o.2.2.trans (h2.o.2.1.low HB.o)),_,_,_,_,HM.o,⟨this.l0,by have:=this.l1;omega,by have:=this.c0;omega,by have:=this.c1;omega,by have:=this.tl;simp;omega⟩,xK _ _⟩
theorem VT(base q:Nat)(s:iY)(at_:Nat)(ln cl:Int)(v:Value)(T:List Tj)(w:l6)(h:Scn w base q s at_ ln cl v T)(hk:Sok at_ ln cl T)(hat:at_<s.size)(hs:s.size<=1000000)(N:Nat)(hN:N<=1073741824)(n:Nat)(tx:iY)(htx:tx=s.extract at_ (at_+n))(htN:tx=jh N)(hsz:tx.size=n)(hn0:0<n)(hn:at_+n<=s.size)(hl:∀ i(h:i<s.size),at_<=i->i<at_+n->48<=(s[i]'h).toNat/\(s[i]'h).toNat<=57)(he:∀ h:at_+n<s.size,¬(48<=(s[at_+n]'h).toNat/\(s[at_+n]'h).toNat<=57)):
  Calls prog 132 #[.pointer (some ⟨q,0,none⟩)] w (WV base q s w (at_+n) (T.map Tj.core++[(2,tx.data.toList,(N:Int))])):=by
 have H:=ze h;have HK:=ze hk;have hP:=h.q0;have hR:=h.ql;have hE:base<=w.heap.size:=by omega
 have hD:=ze (show T.length<=1000000000 by have:=hk.tl;omega);obtain⟨l0,l1,cc0,cc1,tl⟩:=hk;obtain⟨⟨c0,c1,-⟩,-⟩:=h.bx.o5;have a0:(0:Int)<=(at_:Int):=by omega
 have a1:(at_:Int)<(s.size:Int):=by omega
 clear h;have hc:=hl at_ hat (by omega) (by omega);have k0:(((s[at_]'hat).toNat:Int)==32)=false:=by simp;omega
 have k1:(((s[at_]'hat).toNat:Int)==9)=false:=by simp;omega
 have k2:(((s[at_]'hat).toNat:Int)==13)=false:=by simp;omega
 have k3:(((s[at_]'hat).toNat:Int)==35)=false:=by simp;omega
 have k4:(((s[at_]'hat).toNat:Int)==10)=false:=by simp;omega
 have hd:=ze (fun W(hw:Bx W q (VO s at_ ln cl v))=>htx▸Yb 170 (enters_of func170 (by kernel_rfl) rfl) q s at_ n ln cl v W hw hs hn (fun i hi h0 h1=>xJ _ _ (by have:=hl i hi h0 h1;simp;omega)) (fun hi=>xJ _ _ (by have:=he hi;simp;omega)));have hB:=ze (fun W v(hw:Bx W q (VO s at_ ln cl v))=>uG q s at_ ln cl (tx.size:Int) v W hw (by omega) (by omega) (by omega) (by omega) (by omega));have hM:tx.size<=1000000:=by omega
 have hC:=ze hsz;have HN:=ze hn;clear htx hl he hsz hn;have hz:=ze (ko ((s[at_]'hat).toNat:Int) false (by simp;omega));have hy:=ze (xJ ((s[at_]'hat).toNat:Int) true (by simp;omega));have ha:=ze (fun W(hw:Bx W q (VO s at_ ln cl v))=>(show Calls prog 171 #[.pointer (some ⟨q,0,none⟩),.string tx] W fun e w'=>e=.returned (.tuple #[Tj.v ⟨2,tx,N,ln,cl⟩,O J 0])/\fj W w' from htN▸VP N hN q s at_ ln cl v W hw));clear hc htN
 go_in
 go_wp2_with fail;go_quiet(fail);refine zq (w:=w) (fun W=>Scn W base q s at_ ln cl v T) (H.o.below (zg fh nq)) (zg fh nq) ?_;rintro V hV hr;have HV:=ze hV;have hv:=ze (hr.mono hE);have hQ:=hV.ql;have hm:base<=V.heap.size:=by omega
 obtain⟨⟨c0,c1,c2,c3,c4⟩,f0,f1,f2,f3,f4⟩:=hV.bx.o5;clear hV hr;go_upto_region 20 with(first
  |(go_at_call 165;(refine(kp _ k0 k1 k2 _).mono ?_);rintro r w1 ⟨rfl,e9⟩;have e8:=e9.symm;clear e9;subst e8)
  |(go_at_call 169;(refine(hz.o _).mono ?_);rintro r w1 ⟨rfl,e9⟩;have e8:=e9.symm;clear e9;subst e8)
  |(go_at_call 170;(refine(hy.o _).mono ?_);rintro r w1 ⟨rfl,e9⟩;have e8:=e9.symm;clear e9;subst e8)
  |(go_at_call 167;(refine(hd.o _ HV.o.bx).mono ?_);rintro r V2 ⟨rfl,hb⟩;have h4:=ze (HV.o.below hb);have h7:=ze (hv.o.trans (hb.mono hm));have hG:=h4.o.ql;have ho:base<=V2.heap.size:=(by omega);clear hb c0 c1 c2 c3 c4 f0 f1 f2 f3 f4;obtain⟨⟨c0,c1,c2,c3,c4⟩,f0,f1,f2,f3,f4⟩:=h4.o.bx.o5)
  |(go_at_call 171;(refine(ha.o _ h4.o.bx).mono ?_);rintro r V3 ⟨rfl,hb⟩;have hf:=ze (h4.o.below hb);have h8:=ze (h7.o.trans (hb.mono ho));have hI:=hf.o.ql;have hp:base<=V3.heap.size:=(by omega);clear hb c0 c1 c2 c3 c4 f0 f1 f2 f3 f4;obtain⟨⟨c0,c1,c2,c3,c4⟩,f0,f1,f2,f3,f4⟩:=hf.o.bx.o5))
 refine zq (w:=V3) (fun W=>Scn W base q s at_ ln cl v T/\Bx W V3.heap.size (qR (⟨2,tx,N,ln,cl⟩:Tj))) ⟨hf.o.below (fh.alloc fi _),Bx.new V3 (qR (⟨2,tx,N,ln,cl⟩:Tj)) 196⟩ (fh.alloc fi _) ?_;rintro V4 ⟨hj,h6⟩ h3;have hg:=ze hj;have h9:=ze (h8.o.trans (h3.mono hp));have hJ:=hj.ql;have hF:base<=V4.heap.size:=by omega
 obtain⟨p6,h5⟩:∃ p6,p6=V3.heap.size:=⟨_,rfl⟩;rw[<-h5]at h6;have h5:=h5.symm;subst h5;have hS:=h6.lt (by simp);clear c0 c1 c2 c3 c4 f0 f1 f2 f3 f4 hj h3;obtain⟨⟨c0,c1,c2,c3,c4⟩,f0,f1,f2,f3,f4⟩:=hg.o.bx.o5;obtain⟨⟨t0,t1,t2,t3,t4⟩,-⟩:=h6.o5;clear h6
 go_region_law (first|(refine jn (P:=prog) rfl _ _ 191 rfl underlying191 Token.info rfl (by omega) (by omega) rfl ((hg.o.own.drew).alloc _) (⟨2,tx,N,ln,cl⟩:Tj) ⟨_,0,none⟩ 1 rfl rfl (zr _ _ (qR (⟨2,tx,N,ln,cl⟩:Tj)) _ rfl) (uj _) hD.o (by simp;omega) ?_;intro v7 w7 k1 k2 k3;obtain⟨A7,k7,hu,hq,-⟩:=Own.shape k1;obtain⟨n7,ht⟩:∃ n7,n7=(T++[(⟨2,tx,N,ln,cl⟩:Tj)]).length:=⟨_,rfl⟩;rw[<-ht]at hu hq;subst hu;clear ht;have hA:=((Below.refl V4.heap.size V4).drew.alloc fi (.cells (qR (⟨2,tx,N,ln,cl⟩:Tj)).toArray 196));have h2:=ze (hg.o.push hA k1 k2 k3);obtain⟨⟨d0,d1,d2,d3,d4⟩,e0,e1,e2,e3,e4⟩:=h2.o.1.o5;clear k1 k2 k3 hA))
 all_goals
  go_wp2_with(first
   |(go_at_call 166;(refine(hB.o _ _ h2.o.2.1.bx).mono ?_);rintro r w1 ⟨rfl,hx,hb⟩;have HX:=ze hx;have HB:=ze hb;clear hx hb))
  go_ret;have:=HK.o;have hL:=hC.o;have hO:=HN.o;have HM:=ze (h2.o.2.1.moved (at2:=at_+n) HB.o (hL▸HX.o));exact⟨rfl,h9.o.trans (h2.o.2.2.trans (h2.o.2.1.low HB.o)),_,_,_,_,HM.o,⟨this.l0,by have:=this.l1;omega,by have:=this.c0;omega,by have:=this.c1;omega,by have:=this.tl;simp;omega⟩,xK _ _⟩
end
section
open Go.RowKit HB Go.Maps CalP LexP DigP
theorem vG(s:iY):s.data.toList.length=s.size:=by rw[Wh];rfl
structure Pc(s:iY)(a:Nat)(b:List UInt8)(r:List UInt8):Prop where
 le:a+b.length<=s.size
 at_:∀ i(h:i<s.size),a<=i->i<a+b.length->∃ c∈b,s[i]'h=c
 nx:∀ h:a+b.length<s.size,r[0]?=some (s[a+b.length]'h)
 ex:s.extract a (a+b.length)=⟨b.toArray⟩
 hd:∀ c t,b=c::t->∃ h:a<s.size,s[a]'h=c
theorem Pc.of{s:iY}{p b r:List UInt8}(h:s.data.toList=p++(b++r)):Pc s p.length b r:=by
 have h5:s.size=p.length+(b.length+r.length):=by
  have:=congrArg List.length h;rw[vG]at this;rw[this];simp only[kC]
 have h3:∀ i(hi:i<s.size),p.length<=i->i<p.length+b.length->b[i-p.length]?=some (s[i]'hi):=fun i hi h0 h1=>by
  have h2:s.data.toList[i]?=b[i-p.length]?:=by
   rw[h,XY h0,XV (by omega)]
  rw[<-h2];have h':i<s.data.toList.length:=by rw[vG];exact hi
  rw[kD h']
  rfl
 refine⟨by omega,fun i hi h0 h1=>⟨_,jx (h3 i hi h0 h1),rfl⟩,fun hn=>?_,?_,fun c t e=>?_⟩
 ·have h2:s.data.toList[p.length+b.length]?=r[0]?:=by
   rw[h,XY (by omega),XY (by omega)]
   congr 1;omega
  rw[<-h2];have h':p.length+b.length<s.data.toList.length:=by rw[vG];exact hn
  rw[kD h']
  rfl
 ·apply ByteArray.ext;apply Array.toList_inj.1;rw[ByteArray.data_extract];simp only[Array.toList_extract];rw[h];simp[List.extract_eq_take_drop]
 ·have h4:p.length<s.size:=by rw[h5,e];simp;omega
  have:=h3 p.length h4 fi (by rw[e];simp);rw[e]at this;simp only[Nat.sub_self,List.getElem?_cons_zero,Gv]at this;exact⟨h4,this.symm⟩
theorem xL(p:List Lx)(x:Lx):toks (p++[x])=toks p++(LexP.tok x).toList:=by
 unfold toks;rw[YE];cases h:LexP.tok x<;>simp[h]
theorem Kn(p:List Lx)(x:Lx):(zV (p++[x])).length=(zV p).length+x.bs.length:=by simp[zV]
theorem WW(base q:Nat)(s:iY)(p r:List Lx)(x:Lx)(hsx:s.data.toList=zV (p++x::r))(hc:jC (x::r))(ln cl:Int)(v:Value)(T:List Tj)(w:l6)(h:Scn w base q s (zV p).length ln cl v T)(hk:Sok (zV p).length ln cl T)(hs:s.size<=1000000)(hT:T.map Tj.core=toks p):
  Calls prog 132 #[.pointer (some ⟨q,0,none⟩)] w (WV base q s w (zV (p++[x])).length (toks (p++[x]))):=by
 have e1:zV (p++x::r)=zV p++(x.bs++zV r):=by simp[zV]
 have hp:=Pc.of (hsx.trans e1);rw[Kn,xL,<-hT];cases x with
 |b=>
  obtain⟨h1,h2⟩:=hp.hd 32 [] rfl;have:=VQ base q s (zV p).length ln cl v T w h hk h1 hs (by rw[h2];rfl);rw[show(LexP.tok Lx.b).toList=[]from rfl,Hx];exact this
 |nl=>
  obtain⟨h1,h2⟩:=hp.hd 10 [] rfl;exact VR base q s (zV p).length ln cl v T w h hk h1 hs (by rw[h2];rfl)
 |w a=>
  obtain⟨h0,hl,h3,-⟩:=hc;cases a with
  |nil=>exact absurd rfl h0
  |cons c t=>
   obtain⟨h1,h2⟩:=hp.hd c t rfl;exact VS base q s (zV p).length ln cl v T w h hk h1 hs (c::t).length ⟨(c::t).toArray⟩ hp.ex.symm (by rw[<-vG]) (by simp) hp.le
    (fun i hi a0 a1=>by
     obtain⟨d,hd,e⟩:=hp.at_ i hi a0 a1;rw[e];exact hl d hd)
    (fun hn e=>by
     rcases Km h3 (hp.nx hn)with e2|e2<;>exact absurd e (by rw[show(s[(zV p).length+(c::t).length]'hn)=_ from e2];decide))
 |d n=>
  obtain⟨h0,h3,-⟩:=hc;have hd:=JR n;cases h4:jN n with
  |nil=>have:=qh n;rw[h4]at this;simp at this
  |cons c t=>
   obtain⟨h1,h2⟩:=hp.hd c t h4;have:=VT base q s (zV p).length ln cl v T w h hk h1 hs n h0 (jN n).length ⟨(jN n).toArray⟩ hp.ex.symm rfl (by rw[<-vG]) (by rw[h4];simp) hp.le
    (fun i hi a0 a1=>by
     obtain⟨d,h5,e⟩:=hp.at_ i hi a0 a1;rw[e];exact hd d h5)
    (fun hn e=>by
     rcases Km h3 (hp.nx hn)with e2|e2<;>exact absurd e (by rw[show(s[(zV p).length+(jN n).length]'hn)=_ from e2];decide))
   exact this
theorem J6{x:Lx}{r:List Lx}(h:jC (x::r)):0<x.bs.length:=by
 have:x.bs≠[]:=by
  cases x with
  |w a=>exact h.1
  |d n=>have:=qh n;intro e;simp only[Lx.bs]at e;rw[e]at this;simp at this
  |b=>simp[Lx.bs]
  |nl=>simp[Lx.bs]
 cases h2:x.bs with
 |nil=>exact absurd h2 this
 |cons a b=>simp
theorem vj:∀{p r:List Lx},jC (p++r)->jC r
 |[],_,h=>h
 |_::p,_,h=>vj (p:=p) (VM h)
theorem Ko{α β:Type}{f:α->β}{T:List α}{a:List β}{c:β}(h:T.map f=a++[c]):∃ T' t,T=T'++[t]/\f t=c:=by
 obtain⟨T1,T2,rfl,h1,h2⟩:=List.map_eq_append_iff.1 h;cases T2 with
 |nil=>cases h2
 |cons t u=>
  cases u with
  |nil=>simp only[JF,Vm,List.cons.injEq,and_true]at h2;exact⟨T1,t,rfl,h2⟩
  |cons b d=>simp at h2
theorem xM{fn:Func}{p u:Tmp}{ty:TypeId}(h:fn.results= #[.tmp u,.cell p ty])(tmps:Array Value)(P:Program)(w:l6):
  (results fn tmps).run P w=((asAddr (tmps.getD p undef)).run P w).andThen fun a w₁=>((loadVar ty a).run P w₁).andThen fun v w₂=>.ok (.tuple #[tmps.getD u undef,v]) w₂:=by
 simp only[results,h];simp[Sem.run_bind,Result.andThen]
def cD(q:Nat)(w:l6):Nat:=match w.cell? ⟨q,1,none⟩with|some (.int _ n)=>n.toNat|_=>0
theorem Yc{w:l6}{base q:Nat}{s:iY}{a:Nat}{ln cl:Int}{v:Value}{T:List Tj}(h:Scn w base q s a ln cl v T):cD q w=a:=by
 unfold cD;rw[(h.bx 1 _ rfl).1];rfl
theorem WX(s:iY)(ls:List Lx)(hs:s.data.toList=zV (ls++[.nl]))(hc:jC (ls++[.nl]))(hz:s.size<=65536)(w:l6):
  Calls prog 102 #[.string s] w fun e w'=>∃ v T,e=.returned (.tuple #[v,.agg #[O J 0,O J 0,O J 0]])/\Own w' w.heap.size 196 5 qR v T/\T.map Tj.core=toks (ls++[.nl])/\fj w w':=by
 have HS:=ze hs;have HC:=ze hc;have hp:decide ((65536:Int)<(s.size:Int))=false:=by simp;omega
 have hq:s.size<=1000000:=by omega
 clear hz;clear hs hc
 go_in
 go_wp2_with fail
 go_loopw [] (fun wr=>∃ p r ln cl v T,ls++[.nl]=p++r/\Scn wr (w.heap.size+1) (w.heap.size+1) s (zV p).length ln cl v T/\Sok (zV p).length ln cl T/\T.map Tj.core=toks p/\Bx wr w.heap.size [O J 0,O J 0,O J 0]/\fj w wr) (fun wr=>s.size-cD (w.heap.size+1) wr)
 case atStart=>
  have h1:=Bx.two w [O J 0,O J 0,O J 0] (VO s 0 1 1 (.slice none 0 0)) 38 243 (by simp);exact⟨[],_,1,1,_,[],rfl,⟨fi,h1.2,Own.nil _ _ _ _ _,fun k hk=>by cases hk⟩,⟨by simp,by simp,by simp,by simp,by simp⟩,rfl,h1.1,by go_grown⟩
 case round=>
  obtain⟨p,r,ln,cl,v,T,h5,h7,h9,hT,hi,hf⟩:=hrel;have hd:=ze h5;have h8:=ze h7;have hn:=ze h9;have HT:=ze hT;have hl:=ze hi;have hj:=ze hf;have h0:(zV p).length+(zV r).length=s.size:=by
   have h1:=congrArg List.length HS.o;rw[h5,vG]at h1;simp only[zV,Vs,kC]at h1⊢;omega
  obtain⟨⟨c0,c1,c2,c3,c4⟩,f0,f1,f2,f3,f4⟩:=h7.bx.o5;have hA:=h7.ql;cases r with
  |nil=>
   obtain⟨a,ha⟩:∃ a,a=(zV p).length:=⟨_,rfl⟩;rw[<-ha]at c1 h0;have ho:a=s.size:=by simpa using h0
   have HA:=ze ha;clear h5 h7 h9 hT hi hf h0 ha;subst ho;have he:=HT.o;rw[show p=ls++[.nl] by rw[hd.o,Hx],xL]at he;obtain⟨T',t,rfl,ht⟩:=Ko he;obtain⟨g,cap,hv,-,hr,hg,h4,-⟩:=h8.o.own.at_ (by simp);have hk:t.k=3:=congrArg (fun x=>x.1) ht;have t0:=h4 (T'.length*5) (O J 3) (by
    have:=flat_get qA (T'++[t]) T'.length 0 t (by simp) (by omega);rw[Vt]at this;rw[this,<-hk];rfl)
   have h6:(T'++[t]).length=T'.length+1:=by simp
   rw[h6]at hv hg;have hm:=hn.o.tl;rw[h6]at hm;generalize T'.length=m at*;have HV:=ze hv;rw[hv]at c4;have hy:m<=1000000:=by have:=HA.o;omega
   obtain⟨⟨z0,z1,z2⟩,y0,y1,y2⟩:=hl.o.o3;clear hv he ht h4 hk h6 hm hp;go_wp2_with fail;refine bodyPost_ret (v:=.tuple #[v,.agg #[O J 0,O J 0,O J 0]]) (by rw[xM rfl,HV.o];go_simp) rfl ?_;refine⟨v,T'++[t],rfl,?_,?_,?_⟩
   ·exact(h8.o.own.but ((((But.refl (fun k=>k=w.heap.size) wr).at1 rfl _ _).at1 rfl _ _).at1 rfl _ _) (fun k hk e=>by have:=(h8.o.own.row.lt k hk).1;omega)).small (by omega)
   ·rw[HT.o,hd.o,Hx]
   ·exact((hj.o.setCell (p:=⟨w.heap.size,0,none⟩) fi _).setCell (p:=⟨w.heap.size,1,none⟩) fi _).setCell (p:=⟨w.heap.size,2,none⟩) fi _
  |cons x r=>
   have hw:((zV p).length:Int)<(s.size:Int):=by
    have h1:=J6 (vj (h5▸HC.o));simp only[zV,QN,kC]at h0⊢;omega
   have HN:=ze (WW (w.heap.size+1) (w.heap.size+1) s p r x (HS.o.trans (congrArg zV h5)) (vj (h5▸HC.o)) ln cl v T wr h7 h9 hq hT);have hu:(zV p).length<(zV (p++[x])).length:=by rw[Kn];have:=J6 (vj (h5▸HC.o));omega
   generalize(zV p).length=a at*;clear h5 h7 h9 hT hi hf h0;go_wp2_with(go_at_call 132;refine HN.o.mono ?_;rintro r w1 ⟨rfl,hb,ln2,cl2,v2,T2,h1,h2,h3⟩;have HB:=ze hb;have H1:=ze h1;have H2:=ze h2;have H3:=ze h3;clear hb h1 h2 h3);go_roundw
   case rel=>exact⟨p++[x],r,ln2,cl2,v2,T2,by rw[hd.o];simp,H1.o,H2.o,H3.o,hl.o.below HB.o (by omega),hj.o.trans (HB.o.mono (by omega))⟩
   case measure=>
    have h1:=Yc h8.o;have h2:=Yc H1.o;rw[h1,h2];omega
end
end Go.Proofs.YtdeogmbfgkepeaaGreatDoor
