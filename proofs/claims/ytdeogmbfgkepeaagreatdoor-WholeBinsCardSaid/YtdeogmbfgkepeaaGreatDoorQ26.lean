/- Contracts that WholeBins needs. Each tells its conditions. -/
import Derived.Test.YtdeogmbfgkepeaaGreatDoorQ20
import Derived.Test.YtdeogmbfgkepeaaGreatDoorQ22
import Derived.Test.YtdeogmbfgkepeaaGreatDoorQ25
set_option linter.unusedVariables false
set_option linter.unusedSimpArgs false
set_option maxRecDepth 100000
set_option maxHeartbeats 64000000
namespace Go.Proofs.YtdeogmbfgkepeaaGreatDoor
open Go.Proofs.Tryz
open Go.Value renaming int->O
open Go.IntKind renaming i64->J
section
open Go.RowKit HB Go.Maps CalP Go.Sort PickP
abbrev Wg:=(Int×Int)×Int
theorem Wg.info:(prog.info? 189).map (fun i=>(i.zero,i.size,i.bytes))=some (some (.agg #[O J 0,O J 0,O J 0]),3,24):=by kernel_rfl
structure AllR(w:World)(m:Option Nat)(n:Nat)(f:Int×Int->Option Int)(v:Value)(wr:World)(l:List Wg)(cnt:Nat)(left:Int×Int->Prop):Prop where
 own:Own wr (w.heap.size+1) 189 3 ZJ v l
 rk:Rk cellK (Value.int .i64) f m wr w.heap.size cnt left
 n:l.length+cnt<=n
 x:∀ z∈l,f z.1=some z.2
 all:∀ y c,cellK.wf y->f y=some c->¬ left y->(y,c)∈l
 bel:fj w wr
def eH(n:Nat)(f:Int×Int->Option Int)(w:World)(e:Ending)(w':World):Prop:=
 ∃(b off k:Nat)(l:List Wg),e=.returned (.slice (some ⟨b,off,none⟩) l.length k)/\HB.Rd w' w'.heap.size 3 (some ⟨b,off,none⟩) l.length (l.flatMap ZJ)/\l.length<=n/\0<l.length/\(∀z∈l,f z.1=some z.2)/\fj w w'
theorem Hd(x n:Nat)(m:Option Nat)(f:Int×Int->Option Int)(w:World)(H:Gd w x m n f)(hn:n<=1000)(y0:Int×Int)(c0:Int)(hy:cellK.wf y0)(hf:f y0=some c0):
  Calls prog 99 #[.pointer (some ⟨x,0,none⟩)] w (eH n f w):=by
 have hlt:=H.lt;have cx:=H.c;have HY:=ze (And.intro hy hf);clear hy hf;obtain⟨w1,cnt1,hrun1,hrk1,hc1,hb1,hs1⟩:=H.mv.rangeK (T:=143) (E:=3) underlying143;have HML:=ze (fun b e=>H.mv.lt (b:=b) e);have HR0:=ze (show AllR w m n f (.slice none 0 0) w1 [] cnt1 _ from⟨Own.nil _ _ _ _ _,hrk1,by simpa using hc1,fun z hz=>by simp at hz,fun y c hy hf hl=>absurd ⟨hy,by rw[hf];rfl⟩ hl,hb1⟩);clear hrk1 hc1 hb1 H;go_enter func99,ntmps99;go_wp2_with fail;clear hrun1
 go_loopw [3] (fun v wr=>∃ l cnt left,AllR w m n f v wr l cnt left) (fun _ wr=>qu m wr w.heap.size)
 case atStart=>exact⟨_,_,_,HR0.o⟩
 case round=>
  obtain⟨l,cnt,left,hr⟩:=hrel;have HR:=ze hr;clear hr HR0;have hz:=HR.o.bel.size;rcases HR.o.rk.next 0 with⟨h0,hl,hnx⟩|⟨z,c,w2,cnt2,hz1,hzl,hzf,hnx,hrk2,hlt2,hg2,hs2,hen⟩
  ·have HM:=ze (HR.o.all _ _ HY.o.1 HY.o.2 (hl _ HY.o.1));clear hl;have hpos:0<l.length:=List.length_pos_of_mem HM.o;have hln:l.length<=1000:=by have:=HR.o.n;omega
   obtain⟨g,k,rfl,hgB,hgW,hk,-,-⟩:=HR.o.own.at_ hpos;have HS:=ze (QF g k l wr HR.o.own hpos (by omega));go_wp2_with(go_at_call 126;(with_reducible refine HS.o.mono ?_);rintro r w5 ⟨rfl,l5,hp5,hr5,hg5⟩;have HP5:=ze hp5;have HR5:=ze hr5;have HG5:=ze hg5;clear hp5 hr5 hg5);go_ret;have hlen:=HP5.o.length_eq;refine⟨g,0,k,l5,by rw[hlen];rfl,?_,by rw[hlen];have:=HR.o.n;omega,by omega,fun z hz=>HR.o.x z (HP5.o.mem_iff.1 hz),HR.o.bel.grown HG5.o hz (fun k hk=>by injection hk with hk;omega)⟩;rw[hlen];exact HR5.o
  ·have hrz:=HR.o.rk.lt;have hbl:=HR.o.bel;have hne:∀ k,u3.ownBlock=some k->w.heap.size+1<=k:=fun k e=>(HR.o.own.row.lt k e).1
   have hO2:Own w2 (w.heap.size+1) 189 3 ZJ u3 l:=World.ownsRow.kept HR.o.own hg2 (by
    rcases hvb:u3.ownBlock with _|k
    ·exact .inl rfl
    ·refine .inr (fun e=>?_);have:=hne k hvb;injection e with e;omega)
   have HO2:=ze hO2;have HK2:=ze hrk2;have HB2:=ze (hbl.grown hg2 hz (fun k hk=>by injection hk with hk;omega));have HNX:=ze (And.intro hz1 hzf);have HM2:=ze (show qu m w2 w.heap.size<qu m wr w.heap.size from by rw[HR.o.rk.left_eq,hrk2.left_eq];exact hlt2);have hz2:w.heap.size+1<=w2.heap.size:=by omega
   have hln:l.length<=1000000000:=by have:=HR.o.n;omega
   obtain⟨z1,z2⟩:=z;have hnx':(Instr.next (.pointer (some ⟨w.heap.size,0,none⟩)) false 0).run prog wr=.ok (.tuple #[.bool true,.agg #[O J z1,O J z2],O J c]) w2:=hnx;have hen':(Instr.entry (.pointer (some ⟨w.heap.size,0,none⟩))).run prog w2=.ok (.tuple #[.agg #[O J z1,O J z2],O J c]) w2:=hen;clear hnx hen hrk2 hg2 hO2 hbl hne;go_wp2_with(at_builtin;refine push rfl _ _ 186 rfl underlying186 Wg.info rfl (by omega) (by omega) rfl ((HO2.o.alloc _).alloc _) ((z1,z2),c) ⟨_,0,none⟩ 1 rfl rfl (zr _ _ (ZJ ((z1,z2),c)) _ (by simp;omega)) (by simp[Value.oneCell']) hln (by simp;omega) ?_;intro v' w8 k1 k2;have K1:=ze k1;have K2:=ze k2;clear k1 k2);go_roundw
   case rel=>exact⟨l++[((z1,z2),c)],cnt2,_,K1.o,(HK2.o.below (show fj w2 _ from((Below.refl _ w2).alloc fi _).alloc (by simp) _)).low K2.o (by have:=K2.o.size;simp at this⊢;omega) (fun b e=>by have:=HML.o b e;omega) (by omega),by have:=HR.o.n;simp;omega,fun z hz=>(List.mem_append.1 hz).elim (HR.o.x z) (fun h=>by rw[List.mem_singleton.1 h];exact HNX.o.2),fun y d hy hf hl=>by
    by_cases hyl:left y
    ·obtain rfl:y=(z1,z2):=Classical.byContradiction fun hne=>hl ⟨hyl,hne⟩
     have h2:=HNX.o.2;rw[hf]at h2;cases h2;exact List.mem_append.2 (.inr (List.mem_singleton.2 rfl))
    ·exact List.mem_append.2 (.inl (HR.o.all y d hy hf hyl)),(HB2.o.trans ((((Below.refl _ w2).alloc fi _).alloc (by simp) _).mono (by omega))).trans (K2.o.mono (by omega))⟩
   case measure=>rw[(show Rk cellK (Value.int .i64) f m _ w.heap.size _ _ from(HK2.o.below (show fj w2 _ from((Below.refl _ w2).alloc fi _).alloc (by simp) _)).low K2.o (by have:=K2.o.size;simp at this⊢;omega) (fun b e=>by have:=HML.o b e;omega) (by omega)).left_eq];have h1:=HM2.o;rw[HK2.o.left_eq]at h1;exact h1
def eY(fl:Int)(w:World)(e:Ending)(w':World):Prop:=∃ a b:Int,e=.returned (.tuple #[.agg #[O J a,O J b],O J 0])/\0<=a/\a<fl/\0<=b/\b<fl/\a≠b/\fj w w'
theorem bL{l:List Int}(h:∀ x∈l,0<x)(h0:0<l.length):0<PickP.sum l/\∀ k:Int,(∀x∈l,x<=k)->PickP.sum l<=l.length*k:=by
 induction l with
 |nil=>simp at h0
 |cons x l ih=>
  have hx:=h x (by simp);rcases Nat.eq_zero_or_pos l.length with h1|h1
  ·have:l=[]:=List.eq_nil_of_length_eq_zero h1;subst this;refine⟨by simp[PickP.sum];omega,fun k hk=>?_⟩;have:=hk x (by simp);simp[PickP.sum];omega
  ·have ih2:=ih (fun y hy=>h y (by simp[hy])) h1;refine⟨by simp only[PickP.sum];omega,fun k hk=>?_⟩;have h2:=ih2.2 k (fun y hy=>hk y (by simp[hy]));have h3:=hk x (by simp);simp only[PickP.sum,List.length_cons];have e:(((l.length+1:Nat):Int))*k=l.length*k+k:=by rw[Int.natCast_add,Int.add_mul];simp
   rw[e];omega
theorem UR(x n:Nat)(m:Option Nat)(t:Int)(fl:Nat)(wd:Int)(w:World)(H:Gd w x m n (jd t fl fl 0))(hn:n<=400)(ht:1<=t/\t<=4)(h2:2<=fl)(hw0:0<=wd)(hw1:wd<=4294967295):
  Calls prog 75 #[.pointer (some ⟨x,0,none⟩),.int .u32 wd] w (eY fl w):=by
 have HA:=ze (fun W(hb:fj w W)=>Hd x n m _ W (H.below hb) (by omega) (0,1) _ ⟨zQ (by decide) (by decide),zQ (by decide) (by decide)⟩ (KY t fl ht (by omega)));clear H ht;go_enter func75,ntmps75;go_wp2_with(go_at_call 99;(with_reducible refine(HA.o _ (by go_grown)).mono ?_);rintro r w1 ⟨b,off,k,l,rfl,hr,hl,hl0,hx,hb1⟩;have HR:=ze hr;have HX:=ze hx;have HB1:=ze hb1;have d0:w1.cell? ⟨w.heap.size,0,none⟩=some (O J 0):=zf hb1 (by simp);have d1:w1.cell? ⟨w.heap.size,1,none⟩=some (O J 0):=zf hb1 (by simp);have g0:w1.frozen? ⟨w.heap.size,0,none⟩=false:=zG hb1 (by simp) (by simp);have g1:w1.frozen? ⟨w.heap.size,1,none⟩=false:=zG hb1 (by simp) (by simp);have hz1:w.heap.size<w1.heap.size:=(by have:=hb1.size;simp at this;omega);clear hr hx hb1);have HB0:=ze (show fj w w1 from((Below.refl w.heap.size w).alloc fi _).trans (HB1.o.mono (by simp)))
 go_loopw [7,16] (fun v i wr=>∃ j:Nat,j<=l.length/\i=O J j/\Own wr w1.heap.size 3 1 (fa .i64) v ((l.take j).map (·.2))/\fj w1 wr) (fun _ i _=>l.length-(intOf i).toNat)
 case atStart=>exact⟨0,Nat.zero_le _,rfl,Own.nil _ _ _ _ _,fh⟩
 case round=>
  obtain⟨j,hj,rfl,ho,hb⟩:=hrel;have HO:=ze ho;have HB:=ze hb;have hz:=hb.size;clear ho;by_cases hlt:j<l.length
  ·obtain⟨b',off',z,hA,hbb,hgz,hcz⟩:=(HR.o.below hb).elem_at (f:=ZJ) (fun _=>rfl) rfl hlt;cases hA;have c0:wr.cell? ⟨b,off+j*3,none⟩=some (O J z.1.1):=hcz 0 _ (by omega) rfl;have c1:wr.cell? ⟨b,off+j*3+1,none⟩=some (O J z.1.2):=hcz 1 _ (by omega) rfl;have c2:wr.cell? ⟨b,off+j*3+2,none⟩=some (O J z.2):=hcz 2 _ (by omega) rfl;have i0:(0:Int)<=(j:Int):=by omega
   have i1:(j:Int)<(l.length:Int):=by omega
   have HT:=ze (show((l.take (j+1)).map (·.2))=(l.take j).map (·.2)++[z.2]from by rw[List.take_add_one,hgz,List.map_append];rfl);have hln:((l.take j).map (·.2)).length<=1000000000:=by simp;omega
   clear hcz hb hgz;obtain⟨⟨z1,z2⟩,z3⟩:=z;go_wp2_with(at_builtin;refine push rfl _ _ 51 rfl underlying51 Ints.info rfl (by omega) (by omega) rfl ((HO.o.alloc _).alloc _) z3 ⟨_,0,none⟩ 1 rfl rfl (zr _ _ [O J z3] _ (by simp)) (by simp[Value.oneCell']) hln (by simp;omega) ?_;intro v' w8 k1 k2;have K1:=ze k1;have K2:=ze k2;clear k1 k2);go_roundw
   case rel=>exact⟨j+1,by omega,by go_num,by rw[HT.o];exact K1.o,((HB.o.alloc hz _).alloc (by simp;omega) _).trans (K2.o.mono (by omega))⟩
   case measure=>simp[intOf];omega
  ·obtain rfl:j=l.length:=by omega
   have hO:Own wr w1.heap.size 3 1 (fa .i64) u7 (l.map (·.2)):=by have:=HO.o;rwa [List.take_length]at this
   obtain⟨A,c,rfl,-,hr⟩:=hO.shape;rw[zt]at hr;rw[List.length_map]at*;have hx2:∀ z∈l.map (·.2),0<z/\z<=10:=fun z hz=>by
    obtain⟨y,hy,rfl⟩:=List.mem_map.1 hz;have:=Zd (HX.o y hy);exact⟨this.2.2.2.2.1,this.2.2.2.2.2⟩
   have hsum:=bL (fun z hz=>(hx2 z hz).1) (show 0<(l.map (·.2)).length by simpa using hl0);have hs2:=hsum.2 10 (fun z hz=>(hx2 z hz).2);rw[List.length_map]at hs2;have hs1:PickP.sum (l.map (·.2))<=4000:=by omega
   have HP:=ze (bK A l.length c wr.heap.size (l.map (·.2)) wd wr hr (by simp) (by omega) (fun z hz=>zQ (by have:=hx2 z hz;omega) (by have:=hx2 z hz;omega)) hw0 hw1 (fun z hz=>by have:=hx2 z hz;omega) (KW (fun z hz=>by have:=hx2 z hz;omega) (by omega) (by have:=hsum.1;omega)) hsum.1 (by omega));have e0:=hb.cell (p:=⟨w.heap.size,0,none⟩) hz1;have e1:=hb.cell (p:=⟨w.heap.size,1,none⟩) hz1;have e2:=hb.frozen (p:=⟨w.heap.size,0,none⟩) hz1;have e3:=hb.frozen (p:=⟨w.heap.size,1,none⟩) hz1;rw[d0]at e0;rw[d1]at e1;rw[g0]at e2;rw[g1]at e3;have hzz:w.heap.size<wr.heap.size:=by omega
   have HRB:=ze (HR.o.below hb);clear hr hx2 hsum hs2 hs1 hO hb d0 d1 g0 g1;go_wp2_with fail;refine HP.o.mono ?_;rintro r w3 ⟨i,rfl,hsp,rfl⟩;have hil:i<l.length:=by have:=hsp.1;simpa using this
   obtain⟨b',off',z,hA,hbb,hgz,hcz⟩:=HRB.o.elem_at (f:=ZJ) (fun _=>rfl) rfl hil;cases hA;have c0:wr.cell? ⟨b,off+i*3,none⟩=some (O J z.1.1):=hcz 0 _ (by omega) rfl;have c1:wr.cell? ⟨b,off+i*3+1,none⟩=some (O J z.1.2):=hcz 1 _ (by omega) rfl;have hzf:=Zd (HX.o z (List.mem_of_getElem? hgz));have i0:(0:Int)<=(i:Int):=by omega
   have i1:(i:Int)<(l.length:Int):=by omega
   have HZF:=ze hzf;clear hcz hgz hzf hsp;obtain⟨⟨z1,z2⟩,z3⟩:=z;go_wp2_with fail;refine bodyPost_ret (v:=.tuple #[.agg #[O J z1,O J z2],O J 0]) (by rw[results_cell_tmp rfl];go_simp) rfl ?_;obtain⟨q0,q1,q2,q3,-⟩:=HZF.o;have q0:0<=z1:=q0;have q1:0<=z2:=q1;have q2:z1<(fl:Int)/\z2<fl\/z1=fl/\z2<0:=q2;exact⟨z1,z2,rfl,q0,by omega,q1,by omega,q3,((HB0.o.trans (HB.o.mono HB0.o.size)).setCell (p:=⟨w.heap.size,0,none⟩) fi _).setCell (p:=⟨w.heap.size,1,none⟩) fi _⟩
end
end Go.Proofs.YtdeogmbfgkepeaaGreatDoor
