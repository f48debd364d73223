/- Contracts for WholeDelivers. -/
import Derived.Test.YtdeogmbfgkepeaaGreatDoorR20
import Derived.Test.YtdeogmbfgkepeaaGreatDoorR24
import Derived.Test.YtdeogmbfgkepeaaGreatDoorR25
set_option linter.unusedVariables false
set_option linter.unusedSimpArgs false
set_option maxRecDepth 100000
set_option maxHeartbeats 64000000
namespace Go.Proofs.YtdeogmbfgkepeaaGreatDoor
open Go.Proofs.Tryz
open Go.Value renaming int->O
open Go.IntKind renaming i64->J
section
open Go.RowKit HB Go.Maps CalP Go.Sort PickP
abbrev Wg:=(Int×Int)×Int
theorem Wg.info:(prog.info? 189).map (fun i=>(i.zero,i.size,i.bytes))=some (some (.agg #[O J 0,O J 0,O J 0]),3,24):=by kernel_rfl
structure AllR(w:l6)(m:Option Nat)(n:Nat)(f:Int×Int->Option Int)(v:Value)(wr:l6)(l:List Wg)(cnt:Nat)(left:Int×Int->Prop):Prop where
 own:Own wr (w.heap.size+1) 189 3 ZJ v l
 rk:Rk cellK (Value.int .i64) f m wr w.heap.size cnt left
 n:l.length+cnt<=n
 x:∀ z∈l,f z.1=some z.2
 all:∀ y c,cellK.wf y->f y=some c->¬ left y->(y,c)∈l
 bel:fj w wr
def eH(n:Nat)(f:Int×Int->Option Int)(w:l6)(e:Ending)(w':l6):Prop:=
 ∃(b off k:Nat)(l:List Wg),e=.returned (.slice (some ⟨b,off,none⟩) l.length k)/\HB.Rd w' w'.heap.size 3 (some ⟨b,off,none⟩) l.length (l.flatMap ZJ)/\l.length<=n/\0<l.length/\(∀z∈l,f z.1=some z.2)/\fj w w'
theorem Hd(x n:Nat)(m:Option Nat)(f:Int×Int->Option Int)(w:l6)(H:Gd w x m n f)(hn:n<=1000)(y0:Int×Int)(c0:Int)(hy:cellK.wf y0)(hf:f y0=some c0):
  Calls prog 99 #[.pointer (some ⟨x,0,none⟩)] w (eH n f w):=by
 have hP:=H.lt;have cx:=H.c;have HY:=ze (iG hy hf);clear hy hf;obtain⟨w1,cnt1,h7,h6,hq,ho,hQ⟩:=H.mv.rangeK (T:=143) (E:=3) underlying143;have he:=ze (fun b e=>H.mv.lt (b:=b) e);have hj:=ze (show AllR w m n f (.slice none 0 0) w1 [] cnt1 _ from⟨Own.nil _ _ _ _ _,h6,by simpa using hq,fun z hz=>by simp at hz,fun y c hy hf hl=>absurd ⟨hy,by rw[hf];rfl⟩ hl,ho⟩);clear h6 hq ho H
 go_in
 go_wp2_with fail;clear h7
 go_loopw [3] (fun v wr=>∃ l cnt left,AllR w m n f v wr l cnt left) (fun _ wr=>qu m wr w.heap.size)
 case atStart=>exact⟨_,_,_,hj.o⟩
 case round=>
  obtain⟨l,cnt,left,hr⟩:=hrel;have HR:=ze hr;clear hr hj;have hz:=HR.o.bel.size;rcases HR.o.rk.next 0 with⟨h0,hl,hd⟩|⟨z,c,w2,cnt2,hL,hT,hM,hd,h4,hc,ha,hR,hs⟩
  ·have HM:=ze (HR.o.all _ _ HY.o.1 HY.o.2 (hl _ HY.o.1));clear hl;have h5:0<l.length:=List.length_pos_of_mem HM.o;have hu:l.length<=1000:=by have:=HR.o.n;omega
   obtain⟨g,k,rfl,hN,hO,hk,-,-⟩:=HR.o.own.at_ h5;have HS:=ze (QF g k l wr HR.o.own h5 (by omega));go_wp2_with(go_at_call 126;(with_reducible refine HS.o.mono ?_);rintro r w5 ⟨rfl,l5,hv,hw,ht⟩;have hi:=ze hv;have hF:=ze hw;have hC:=ze ht;clear hv hw ht);go_ret;have h3:=hi.o.length_eq;refine⟨g,0,k,l5,by rw[h3];rfl,?_,by rw[h3];have:=HR.o.n;omega,by omega,fun z hz=>HR.o.x z (hi.o.mem_iff.1 hz),HR.o.bel.grown hC.o hz (fun k hk=>by injection hk with hk;omega)⟩;rw[h3];exact hF.o
  ·have hrz:=HR.o.rk.lt;have hp:=HR.o.bel;have h8:∀ k,u3.ownBlock=some k->w.heap.size+1<=k:=fun k e=>(HR.o.own.row.lt k e).1
   have hm:Own w2 (w.heap.size+1) 189 3 ZJ u3 l:=iR HR.o.own ha (by
    rcases hJ:u3.ownBlock with _|k
    ·exact .inl rfl
    ·refine .inr (fun e=>?_);have:=h8 k hJ;injection e with e;omega)
   have hE:=ze hm;have h9:=ze h4;have hB:=ze (hp.grown ha hz (fun k hk=>by injection hk with hk;omega));have hg:=ze (iG hL hM);have hD:=ze (show qu m w2 w.heap.size<qu m wr w.heap.size from by rw[HR.o.rk.left_eq,h4.left_eq];exact hc);have hS:w.heap.size+1<=w2.heap.size:=by omega
   have hu:l.length<=1000000000:=by have:=HR.o.n;omega
   obtain⟨z1,z2⟩:=z;have hI:(Instr.next (.pointer (some ⟨w.heap.size,0,none⟩)) false 0).run prog wr=.ok (.tuple #[.bool true,.agg #[O J z1,O J z2],O J c]) w2:=hd;have hG:(Instr.entry (.pointer (some ⟨w.heap.size,0,none⟩))).run prog w2=.ok (.tuple #[.agg #[O J z1,O J z2],O J c]) w2:=hs;clear hd hs h4 ha hm hp h8;go_wp2_with(at_builtin;refine push rfl _ _ 186 rfl underlying186 Wg.info rfl (by omega) (by omega) rfl ((hE.o.alloc _).alloc _) ((z1,z2),c) ⟨_,0,none⟩ 1 rfl rfl (zr _ _ (ZJ ((z1,z2),c)) _ (by simp;omega)) (by simp[Value.oneCell']) hu (by simp;omega) ?_;intro v' w8 k1 k2;have K1:=ze k1;have K2:=ze k2;clear k1 k2);go_roundw
   case rel=>exact⟨l++[((z1,z2),c)],cnt2,_,K1.o,(h9.o.below (show fj w2 _ from((Below.refl _ w2).alloc fi _).alloc (by simp) _)).low K2.o (by have:=K2.o.size;simp at this⊢;omega) (fun b e=>by have:=he.o b e;omega) (by omega),by have:=HR.o.n;simp;omega,fun z hz=>(yp.1 hz).elim (HR.o.x z) (fun h=>by rw[vN.1 h];exact hg.o.2),fun y d hy hf hl=>by
    by_cases hA:left y
    ·obtain rfl:y=(z1,z2):=Classical.byContradiction fun h8=>hl ⟨hA,h8⟩
     have h2:=hg.o.2;rw[hf]at h2;cases h2;exact yp.2 (.inr (vN.2 rfl))
    ·exact yp.2 (.inl (HR.o.all y d hy hf hA)),(hB.o.trans ((((Below.refl _ w2).alloc fi _).alloc (by simp) _).mono (by omega))).trans (K2.o.mono (by omega))⟩
   case measure=>rw[(show Rk cellK (Value.int .i64) f m _ w.heap.size _ _ from(h9.o.below (show fj w2 _ from((Below.refl _ w2).alloc fi _).alloc (by simp) _)).low K2.o (by have:=K2.o.size;simp at this⊢;omega) (fun b e=>by have:=he.o b e;omega) (by omega)).left_eq];have h1:=hD.o;rw[h9.o.left_eq]at h1;exact h1
def eY(fl:Int)(w:l6)(e:Ending)(w':l6):Prop:=∃ a b:Int,e=.returned (.tuple #[.agg #[O J a,O J b],O J 0])/\0<=a/\a<fl/\0<=b/\b<fl/\a≠b/\fj w w'
theorem bL{l:l8}(h:∀ x∈l,0<x)(h0:0<l.length):0<PickP.sum l/\∀ k:Int,(∀x∈l,x<=k)->PickP.sum l<=l.length*k:=by
 induction l with
 |nil=>simp at h0
 |cons x l ih=>
  have hx:=h x (by simp);rcases ZW l.length with h1|h1
  ·have:l=[]:=yj h1;subst this;refine⟨by simp[PickP.sum];omega,fun k hk=>?_⟩;have:=hk x (by simp);simp[PickP.sum];omega
  ·have ih2:=ih (fun y hy=>h y (by simp[hy])) h1;refine⟨by simp only[PickP.sum];omega,fun k hk=>?_⟩;have h2:=ih2.2 k (fun y hy=>hk y (by simp[hy]));have h3:=hk x (by simp);simp only[PickP.sum,Zn];have e:(((l.length+1:Nat):Int))*k=l.length*k+k:=by rw[Int.natCast_add,Vo];simp
   rw[e];omega
theorem UR(x n:Nat)(m:Option Nat)(t:Int)(fl:Nat)(wd:Int)(w:l6)(H:Gd w x m n (jd t fl fl 0))(hn:n<=400)(ht:1<=t/\t<=4)(h2:2<=fl)(hw0:0<=wd)(hw1:wd<=4294967295):
  Calls prog 75 #[.pointer (some ⟨x,0,none⟩),.int .u32 wd] w (eY fl w):=by
 have HA:=ze (fun W(hb:fj w W)=>Hd x n m _ W (H.below hb) (by omega) (0,1) _ ⟨zQ (by decide) (by decide),zQ (by decide) (by decide)⟩ (KY t fl ht (by omega)));clear H ht
 go_in
 go_wp2_with(go_at_call 99;(with_reducible refine(HA.o _ (by go_grown)).mono ?_);rintro r w1 ⟨b,off,k,l,rfl,hr,hl,hi,hx,h3⟩;have HR:=ze hr;have HX:=ze hx;have hc:=ze h3;have d0:w1.cell? ⟨w.heap.size,0,none⟩=some (O J 0):=zf h3 (by simp);have d1:w1.cell? ⟨w.heap.size,1,none⟩=some (O J 0):=zf h3 (by simp);have g0:w1.frozen? ⟨w.heap.size,0,none⟩=false:=zG h3 (by simp) (by simp);have g1:w1.frozen? ⟨w.heap.size,1,none⟩=false:=zG h3 (by simp) (by simp);have h6:w.heap.size<w1.heap.size:=(by have:=h3.size;simp at this;omega);clear hr hx h3);have h7:=ze (show fj w w1 from((Below.refl w.heap.size w).alloc fi _).trans (hc.o.mono (by simp)))
 go_loopw [7,16] (fun v i wr=>∃ j:Nat,j<=l.length/\i=O J j/\Own wr w1.heap.size 3 1 (fa .i64) v ((l.take j).map (·.2))/\fj w1 wr) (fun _ i _=>l.length-(intOf i).toNat)
 case atStart=>exact⟨0,vf _,rfl,Own.nil _ _ _ _ _,fh⟩
 case round=>
  obtain⟨j,hj,rfl,ho,hb⟩:=hrel;have HO:=ze ho;have HB:=ze hb;have hz:=hb.size;clear ho;by_cases hm:j<l.length
  ·obtain⟨b',off',z,hA,hf,h5,h1⟩:=(HR.o.below hb).elem_at (f:=ZJ) (fun _=>rfl) rfl hm;cases hA;have c0:wr.cell? ⟨b,off+j*3,none⟩=some (O J z.1.1):=h1 0 _ (by omega) rfl;have c1:wr.cell? ⟨b,off+j*3+1,none⟩=some (O J z.1.2):=h1 1 _ (by omega) rfl;have c2:wr.cell? ⟨b,off+j*3+2,none⟩=some (O J z.2):=h1 2 _ (by omega) rfl;have i0:(0:Int)<=(j:Int):=by omega
   have i1:(j:Int)<(l.length:Int):=by omega
   have HT:=ze (show((l.take (j+1)).map (·.2))=(l.take j).map (·.2)++[z.2]from by rw[Vn,h5,XW];rfl);have hk:((l.take j).map (·.2)).length<=1000000000:=by simp;omega
   clear h1 hb h5;obtain⟨⟨z1,z2⟩,z3⟩:=z;go_wp2_with(at_builtin;refine push rfl _ _ 51 rfl underlying51 Ints.info rfl (by omega) (by omega) rfl ((HO.o.alloc _).alloc _) z3 ⟨_,0,none⟩ 1 rfl rfl (zr _ _ [O J z3] _ (by simp)) (by simp[Value.oneCell']) hk (by simp;omega) ?_;intro v' w8 k1 k2;have K1:=ze k1;have K2:=ze k2;clear k1 k2);go_roundw
   case rel=>exact⟨j+1,by omega,by go_num,by rw[HT.o];exact K1.o,((HB.o.alloc hz _).alloc (by simp;omega) _).trans (K2.o.mono (by omega))⟩
   case measure=>simp[intOf];omega
  ·obtain rfl:j=l.length:=by omega
   have hO:Own wr w1.heap.size 3 1 (fa .i64) u7 (l.map (·.2)):=by have:=HO.o;rwa [UZ]at this
   obtain⟨A,c,rfl,-,hr⟩:=hO.shape;rw[zt]at hr;rw[KS]at*;have h4:∀ z∈l.map (·.2),0<z/\z<=10:=fun z hz=>by
    obtain⟨y,hy,rfl⟩:=Vl.1 hz;have:=Zd (HX.o y hy);exact⟨this.2.2.2.2.1,this.2.2.2.2.2⟩
   have h0:=bL (fun z hz=>(h4 z hz).1) (show 0<(l.map (·.2)).length by simpa using hi);have h8:=h0.2 10 (fun z hz=>(h4 z hz).2);rw[KS]at h8;have hp:PickP.sum (l.map (·.2))<=4000:=by omega
   have HP:=ze (bK A l.length c wr.heap.size (l.map (·.2)) wd wr hr (by simp) (by omega) (fun z hz=>zQ (by have:=h4 z hz;omega) (by have:=h4 z hz;omega)) hw0 hw1 (fun z hz=>by have:=h4 z hz;omega) (KW (fun z hz=>by have:=h4 z hz;omega) (by omega) (by have:=h0.1;omega)) h0.1 (by omega));have e0:=hb.cell (p:=⟨w.heap.size,0,none⟩) h6;have e1:=hb.cell (p:=⟨w.heap.size,1,none⟩) h6;have e2:=hb.frozen (p:=⟨w.heap.size,0,none⟩) h6;have e3:=hb.frozen (p:=⟨w.heap.size,1,none⟩) h6;rw[d0]at e0;rw[d1]at e1;rw[g0]at e2;rw[g1]at e3;have hq:w.heap.size<wr.heap.size:=by omega
   have hd:=ze (HR.o.below hb);clear hr h4 h0 h8 hp hO hb d0 d1 g0 g1;go_wp2_with fail;refine HP.o.mono ?_;rintro r w3 ⟨i,rfl,h9,rfl⟩;have hg:i<l.length:=by have:=h9.1;simpa using this
   obtain⟨b',off',z,hA,hf,h5,h1⟩:=hd.o.elem_at (f:=ZJ) (fun _=>rfl) rfl hg;cases hA;have c0:wr.cell? ⟨b,off+i*3,none⟩=some (O J z.1.1):=h1 0 _ (by omega) rfl;have c1:wr.cell? ⟨b,off+i*3+1,none⟩=some (O J z.1.2):=h1 1 _ (by omega) rfl;have ha:=Zd (HX.o z (jx h5));have i0:(0:Int)<=(i:Int):=by omega
   have i1:(i:Int)<(l.length:Int):=by omega
   have he:=ze ha;clear h1 h5 ha h9;obtain⟨⟨z1,z2⟩,z3⟩:=z;go_wp2_with fail;refine bodyPost_ret (v:=.tuple #[.agg #[O J z1,O J z2],O J 0]) (by rw[results_cell_tmp rfl];go_simp) rfl ?_;obtain⟨q0,q1,q2,q3,-⟩:=he.o;have q0:0<=z1:=q0;have q1:0<=z2:=q1;have q2:z1<(fl:Int)/\z2<fl\/z1=fl/\z2<0:=q2;exact⟨z1,z2,rfl,q0,by omega,q1,by omega,q3,((h7.o.trans (HB.o.mono h7.o.size)).setCell (p:=⟨w.heap.size,0,none⟩) fi _).setCell (p:=⟨w.heap.size,1,none⟩) fi _⟩
end
end Go.Proofs.YtdeogmbfgkepeaaGreatDoor
