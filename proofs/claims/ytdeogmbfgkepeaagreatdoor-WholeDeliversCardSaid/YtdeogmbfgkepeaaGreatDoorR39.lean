/- Contracts for WholeDelivers. -/
import Derived.Test.YtdeogmbfgkepeaaGreatDoorR30
import Derived.Test.YtdeogmbfgkepeaaGreatDoorR38
set_option linter.unusedVariables false
set_option linter.unusedSimpArgs false
set_option maxRecDepth 100000
set_option maxHeartbeats 64000000
namespace Go.Proofs.YtdeogmbfgkepeaaGreatDoor
open Go.Proofs.Tryz
open Go.Value renaming int->O
open Go.IntKind renaming i64->J
section
open Go.RowKit HB DigP Go.Sort
def RepOK(w:l6):Prop:=∀ W,Below w.heap.size w W->∀ x:iY,x.size<=100->Calls prog 38 #[.string x,.string ⟨#[32]⟩,.string ⟨#[43]⟩] W fun e w'=>Xg 1000 e/\Below W.heap.size W w'
theorem RepOK.below{w w':l6}(h:RepOK w)(hb:Below w.heap.size w w'):RepOK w':=fun W hW x hx=>h W (hb.trans (hW.mono hb.size)) x hx
theorem StrsQ.info:(prog.info? 9).map (fun i=>(i.zero,i.size,i.bytes))=some (some (.string ⟨#[]⟩),1,16):=by kernel_rfl
def StatsQ(Q:List iY->Prop)(w:l6)(e:Ending)(w':l6):Prop:=(∃(A:iX)(k:Nat)(l:List iY),e=.returned (.slice A 6 k)/\SRok w' w'.heap.size ⟨A,6,k,l⟩/\Q l)/\Below w.heap.size w w'
def Qm(w:l6)(e:Ending)(w':l6):Prop:=(∃(A:iX)(k:Nat)(l:List iY),e=.returned (.slice A 6 k)/\SRok w' w'.heap.size ⟨A,6,k,l⟩)/\Below w.heap.size w w'
theorem StatsQ.p{Q:List iY->Prop}{w:l6}{e:Ending}{w':l6}(h:StatsQ Q w e w'):Qm w e w':=let⟨⟨A,k,l,h1,h2,_⟩,h3⟩:=h;⟨⟨A,k,l,h1,h2⟩,h3⟩
def Jk:iY:=⟨#[110,47,97]⟩
theorem Ul(l:List iY):l.flatMap JZ=l.map Value.string:=by
 induction l with
 |nil=>rfl
 |cons x l ih=>rw[QN,JF,ih];rfl
theorem Jl{Q:List iY->Prop}{w wr:l6}{v:Value}{l:List iY}(h:Own wr w.heap.size 9 1 JZ v l)(hl:l.length=6)(hx:∀ x∈l,x.size<=1000)(hb:Below w.heap.size w wr)(hq:Q l):StatsQ Q w (.returned v) wr:=by
 obtain⟨A,k,rfl,hk,hr⟩:=h.shape;rw[hl]at hr h⊢;refine⟨⟨A,k,l,rfl,⟨?_,hl,by show 6<=100;omega,fun b off e=>?_,hx⟩,hq⟩,hb⟩
 ·rw[<-Ul];exact hr
 ·obtain⟨b',off',e',h0,-⟩:=hr.2 (by omega);have:A=some ⟨b,off,none⟩:=e;rw[e']at this;cases this;exact h0
theorem vB(name:iY)(hn:name.size<=1000)(A:iX)(c:Nat)(w:l6):Calls prog 18 #[.string name,.slice A 0 c] w (StatsQ (fun l=>l=[name,Jk,Jk,Jk,Jk,Jk]) w):=by
 have h8:=ze (Own.block (base:=w.heap.size) (f:=JZ) (sz:=1) w 9 #[.string name] [name] fi rfl (fun _=>rfl) (by simp))
 go_in
 go_wp2_with(first
  |(go_at_call 37;(with_reducible refine(Ji _).mono ?_);rintro r w1 ⟨v1,rfl,h7,h1⟩;obtain⟨A1,k1,rfl,-,-⟩:=h7.shape;have h6:=ze (h8.o.below h1);have h4:=ze h1;clear h7 h1))
 go_loopw [5,20] (fun v i wr=>∃(j:Nat)(l:List iY),j<=5/\i=O J j/\Own wr w.heap.size 9 1 JZ v l/\l=name::List.replicate j Jk/\(∀x∈l,x.size<=1000)/\Below w.heap.size w wr) (fun _ i _=>5-(intOf i).toNat)
 case atStart=>exact⟨0,[name],by omega,rfl,h6.o,rfl,fun x hx=>by rw[vN.1 hx];exact hn,((Below.refl _ w).alloc fi _).trans (h4.o.mono (by simp))⟩
 case round=>
  obtain⟨j,l,hj,rfl,ho,h3,hx,hb⟩:=hrel;have hl:l.length=j+1:=by rw[h3];simp
  have h5:=ze h3;clear h3;have HO:=ze ho;have HX:=ze hx;have HB:=ze hb;have hz:=hb.size;clear ho hx hb h6 h4;by_cases hc:j<5
  ·have h2:decide ((j:Int)<5)=true:=by simp;omega
   have ha:l.length<=1000000000:=by omega
   go_wp2_with(at_builtin;refine push rfl _ _ 49 rfl underlying49 StrsQ.info rfl (by omega) (by omega) rfl (HO.o.alloc _) (⟨#[110,47,97]⟩:iY) ⟨_,0,none⟩ 1 rfl rfl (cell_one_new _ _ _) (by simp[Value.oneCell']) ha (by simp;omega) ?_;intro v' w2 h0 h9);go_roundw
   case rel=>exact⟨j+1,_,by omega,by go_num,h0,by rw[h5.o,List.replicate_succ'];rfl,fun x hx=>(yp.1 hx).elim (HX.o x) (fun h=>by rw[vN.1 h];decide),(HB.o.alloc hz _).trans h9⟩
   case measure=>simp[intOf];omega
  ·obtain rfl:j=5:=by omega
   go_wp2_with fail;go_ret;exact Jl HO.o hl HX.o HB.o (by rw[h5.o];rfl)
theorem Qn(name:iY)(hn:name.size<=1000)(A:iX)(c:Nat)(w:l6):Calls prog 18 #[.string name,.slice A 0 c] w (Qm w):=(vB name hn A c w).mono fun _ _ h=>h.p
def PsOK(w:l6)(A:iX)(v:Value)(ps:l8):Prop:=HB.Rd w w.heap.size 1 A 4 (ps.map (Value.int .i64))/\∀ b off,A=some ⟨b,off,none⟩->b<w.heap.size/\v.ownBlock≠some b
theorem PsOK.step{w w':l6}{A:iX}{v:Value}{ps:l8}(h:PsOK w A v ps)(hb:Below w.heap.size w w'):PsOK w' A v ps:=
 ⟨(h.1.below hb).mono hb.size,fun b off e=>⟨kK (h.2 b off e).1 hb.size,(h.2 b off e).2⟩⟩
theorem PsOK.push{w w':l6}{A:iX}{v v':Value}{ps:l8}(h:PsOK w A v ps)(hg:w.grownBy w' v.ownBlock)(hv:v'.ownBlock=v.ownBlock\/v'.ownBlock=some w.heap.size):PsOK w' A v' ps:=by
 have hb:But (fun k=>v.ownBlock=some k) w w':=(But.refl _ w).grown hg (fun q hq _=>hq);refine⟨(ul h.1 hb (fun b off e=>(h.2 b off e).2)).mono hb.size,fun b off e=>⟨kK (h.2 b off e).1 hb.size,fun e2=>?_⟩⟩;rcases hv with hv|hv
 ·exact(h.2 b off e).2 (hv▸e2)
 ·have:=(h.2 b off e).1;have h3:w.heap.size=b:=ve (hv.symm.trans e2);omega
theorem Yn(p:Int)(l:l8)(h:∀ x∈l,yQ x):yQ (Ql p l):=by
 unfold Ql;rw[QR];rcases hx:(qa l)[((l.length:Int)/100*p+((l.length:Int)%100*p+99)/100-1).toNat]? with _|x
 ·exact⟨by show(-9223372036854775808:Int)<=0;omega,by show(0:Int)<=9223372036854775807;omega⟩
 ·exact h x (by have h9:=jx hx;unfold qa at h9;exact List.mem_mergeSort.1 h9)
theorem Gl(ks:List Nat)(h:∀ k∈ks,k<=1000000):ks.sum<=ks.length*1000000:=by
 induction ks with
 |nil=>simp
 |cons k l ih=>
  have h1:=h k (by simp);have h2:=ih (fun x hx=>h x (by simp[hx]));simp only[List.sum_cons,Zn];omega
theorem Z4(name:iY)(hn:name.size<=1000)(b off n c:Nat)(ks:List Nat)(w:l6)(hr:Rd w w.heap.size 1 (some ⟨b,off,none⟩) n (ks.map fun k:Nat=>O J (k:Int)))(hl:ks.length=n)(hpos:0<n)(hn1:n<=1000)(hk:∀ k∈ks,k<=1000000)(hrep:RepOK w):
  Calls prog 18 #[.string name,.slice (some ⟨b,off,none⟩) n c] w (StatsQ (fun l=>∃ y:iY,l=name::y::([50,90,95,100]:l8).map (fun p=>zC (Ql p (ks.map fun k:Nat=>(k:Int))))) w):=by
 have hs:=Gl ks hk;rw[hl]at hs;have Hk:((n:Int)==0)=false:=by simp;omega
 have H8:0<=(ks.sum:Int)/(n:Int):=Wi (by omega) (by omega);have H9:(ks.sum:Int)/(n:Int)<=(ks.sum:Int):=iI _ (by omega);have H6:0<=(ks.sum:Int)%(n:Int):=iB _ (by omega);have H7:(ks.sum:Int)%(n:Int)<(n:Int):=du _ (by omega);have HM:=ze (fun W(hb:Below w.heap.size w W)=>Jj (some ⟨b,off,none⟩) n c w.heap.size ks W (hr.below hb) hb.size hl (by omega) hpos (by omega));have HT:=ze (fun W=>Ud ((ks.sum:Int)/n) ((ks.sum:Int)%n) n ⟨by omega,by omega⟩ ⟨by omega,by omega⟩ ⟨by omega,by omega⟩ W);have hI:Rd w w.heap.size 1 (some ⟨b,off,none⟩) n ((ks.map fun k:Nat=>(k:Int)).map (Value.int .i64)):=by rw[iP];exact hr
 have hP:=ze (fun(Ap:iX)(cp Bp:Nat) W(hp:Rd W Bp 1 Ap 4 (([50,90,95,100]:l8).map (Value.int .i64)))(H2:Bp<=W.heap.size)(hb:Below w.heap.size w W)=>
  Uk Ap 4 cp Bp [50,90,95,100] b off n c w.heap.size (ks.map fun k:Nat=>(k:Int)) W hp H2 rfl (by omega) (by intro p hp;simp at hp;rcases hp with rfl|rfl|rfl|rfl<;>omega) (hI.below hb) hb.size (by simpa using hl) (by omega) hpos)
 have hX:=ze (fun p=>Yn p (ks.map fun k:Nat=>(k:Int)) (fun x hx=>by
  obtain⟨k,H3,rfl⟩:=Vl.1 hx;have:=hk k H3;exact⟨by omega,by omega⟩))
 have H0:=ze (fun W hb x hx=>hrep W hb x hx);have hR:=ze (Own.block (base:=w.heap.size) (f:=JZ) (sz:=1) w 9 #[.string name] [name] fi rfl (fun _=>rfl) (by simp));have h4:=ze (show Below w.heap.size w (w.alloc (.cells #[.string name] 9))from by go_grown);generalize(ks.sum:Int)/(n:Int)=q at*;generalize(ks.sum:Int)%(n:Int)=r at*;clear hr hI hrep hs hk H8 H9 H6 H7
 go_in
 go_upto_region 11 with(first
  |(go_at_call 19;(with_reducible refine(HM.o _ h4.o).mono ?_);rintro r1 w1 ⟨rfl,h5⟩;have hS:=ze ((hR.o.below h5).alloc (.cells #[O J q,O J r,O J n] 60));have hq:=ze ((h4.o.trans (h5.mono h4.o.size)).alloc (h4.o.trans (h5.mono h4.o.size)).size (.cells #[O J q,O J r,O J n] 60));clear h5)
  |(go_at_call 39;(with_reducible refine(HT.o _).mono ?_);rintro r2 w2 ⟨⟨x,rfl,hx⟩,ha⟩;have hT:=ze (hS.o.below ha);have h8:=ze (hq.o.trans (ha.mono hq.o.size));have HX:=ze hx;clear ha hx)
  |(go_at_call 38;(with_reducible refine(H0.o _ h8.o x HX.o).mono ?_);rintro r3 w3 ⟨⟨y,rfl,hy⟩,hc⟩;have hU:=ze (hT.o.below hc);have ht:=ze (h8.o.trans (hc.mono h8.o.size));have HY:=ze hy;have Ha:=ht.o.size;clear hc hy)
  |(at_builtin;refine push rfl _ _ 49 rfl underlying49 StrsQ.info rfl (by omega) (by omega) rfl (hU.o.alloc _) y ⟨_,0,none⟩ 1 rfl rfl (cell_one_new _ _ _) (by simp[Value.oneCell']) (by simp) (by simp;omega) ?_;intro v4 w4 h0 hF;have hV:=ze h0;have hu:=ze ((ht.o.alloc Ha _).trans hF);clear h0 hF)
  |(go_at_call 37;(with_reducible refine(Ji _).mono ?_);rintro r5 w5 ⟨v5,rfl,hG,hd⟩;obtain⟨A5,k5,rfl,-,hJ⟩:=hG.shape;have hC:=ze (hV.o.below hd);have h9:=ze (hu.o.trans (hd.mono hu.o.size));have hY:=ze (show HB.Rd w5 w5.heap.size 1 A5 4 (([50,90,95,100]:l8).map (Value.int .i64))from by rw[<-zt];exact hJ);clear hG hd hJ)
  |(go_at_call 40;(with_reducible refine(hP.o A5 k5 _ _ hY.o fi h9.o).mono ?_);rintro r6 w6 ⟨v6,rfl,hf,h3⟩;obtain⟨A6,k6,hg,-,hL⟩:=hf.shape;have hg:v6=.slice A6 4 k6:=hg;subst hg;have hW:=ze (hC.o.below h3);have hm:=ze (fun(g:Nat)(e:(Value.slice A6 4 k6).ownBlock=some g)=>(hf.row.lt g e));have hv:=ze (h9.o.trans (h3.mono h9.o.size));have hZ:=ze (show HB.Rd w6 w6.heap.size 1 A6 4 ((([50,90,95,100]:l8).map fun p=>Ql p (ks.map fun k:Nat=>(k:Int))).map (Value.int .i64))from by rw[<-zt];exact hL);clear hf h3 hL))
 have Ho:=hv.o.size;go_wp2_with fail
 go_loopw [5,46] (fun v i wr=>∃(j:Nat)(l:List iY),j<=4/\i=O J j/\Own wr w.heap.size 9 1 JZ v l/\l=name::y::(([50,90,95,100]:l8).take j).map (fun p=>zC (Ql p (ks.map fun k:Nat=>(k:Int))))/\(∀x∈l,x.size<=1000)/\Below w.heap.size w wr/\PsOK wr A6 v (([50,90,95,100]:l8).map fun p=>Ql p (ks.map fun k:Nat=>(k:Int)))) (fun _ i _=>4-(intOf i).toNat)
 case atStart=>exact⟨0,_,by omega,rfl,hW.o,rfl,fun x hx=>(yp.1 hx).elim (fun h=>by rw[vN.1 h];exact hn) (fun h=>by rw[vN.1 h];exact HY.o),hv.o,hZ.o,fun g o e=>⟨(hm.o g (by rw[e];rfl)).2,fun e2=>by have h1:=(hm.o g (by rw[e];rfl)).1;have h2:=(hC.o.row.lt g e2).2;omega⟩⟩
 case round=>
  obtain⟨j,l,hj,rfl,ho,he,hM,hb,h3⟩:=hrel;have hl9:l.length=j+2:=by rw[he];simp;omega
  have hB:=ze he;clear he;have HO:=ze ho;have hE:=ze hM;have HB:=ze hb;have hA:=ze h3;have hz:=hb.size;clear ho hM hb h3;by_cases H5:j<4
  ·have h2:decide ((j:Int)<4)=true:=by simp;omega
   have i0:(0:Int)<=(j:Int):=by omega
   have i1:(j:Int)<4:=by omega
   have H4:l.length<=1000000000:=by omega
   obtain⟨b6,o6,z,rfl,Hj,h7,cz⟩:=hA.o.1.int_at rfl H5;have hi:yQ z:=by
    obtain⟨p,-,rfl⟩:=Vl.1 (jx h7);exact hX.o p
   have hQ:=ze (show l++[zC z]=name::y::(([50,90,95,100]:l8).take (j+1)).map (fun p=>zC (Ql p (ks.map fun k:Nat=>(k:Int))))from by
    rw[QL,Option.map_eq_some_iff]at h7;obtain⟨p,hp,rfl⟩:=h7;rw[hB.o,Vn,hp,XW];rfl)
   have hO:=ze (fun W=>ja z hi W);have H1:=ze (jc z hi);clear h7 hi;go_wp2_with(first
    |(go_at_call 21;(with_reducible refine(hO.o _).mono ?_);rintro r7 w7 ⟨rfl,h6⟩;have hD:=ze (HO.o.below h6);have hw:=ze (HB.o.trans (h6.mono hz));have hN:=ze ((hA.o.step h6).step ((Below.refl w7.heap.size w7).alloc fi (.cells #[.string (zC z)] 9)));have Hc:=hw.o.size;clear h6)
    |(at_builtin;refine kG (P:=prog) rfl _ _ 49 rfl underlying49 StrsQ.info rfl (by omega) (by omega) rfl (hD.o.alloc _) (zC z) ⟨_,0,none⟩ 1 rfl rfl (cell_one_new _ _ _) (by simp[Value.oneCell']) H4 (by simp;omega) ?_;intro v' w8 k1 k2 k3;have K1:=ze k1;have K2:=ze ((hw.o.alloc Hc _).grown k2 (by simp;omega) (fun k hk=>(hD.o.row.lt k hk).1));have K3:=ze (hN.o.push k2 k3);clear k1 k2 k3))
   go_roundw
   case rel=>exact⟨j+1,_,by omega,by go_num,K1.o,hQ.o,fun x hx=>(yp.1 hx).elim (hE.o x) (fun h=>by rw[vN.1 h];have:=H1.o;omega),K2.o,K3.o⟩
   case measure=>simp[intOf];omega
  ·obtain rfl:j=4:=by omega
   go_wp2_with fail;go_ret;exact Jl HO.o hl9 hE.o HB.o ⟨y,by rw[hB.o];rfl⟩
theorem Um(name:iY)(hn:name.size<=1000)(b off n c:Nat)(ks:List Nat)(w:l6)(hr:Rd w w.heap.size 1 (some ⟨b,off,none⟩) n (ks.map fun k:Nat=>O J (k:Int)))(hl:ks.length=n)(hpos:0<n)(hn1:n<=1000)(hk:∀ k∈ks,k<=1000000)(hrep:RepOK w):
  Calls prog 18 #[.string name,.slice (some ⟨b,off,none⟩) n c] w (Qm w):=(Z4 name hn b off n c ks w hr hl hpos hn1 hk hrep).mono fun _ _ h=>h.p
end
section
open Go.RowKit HB DigP HistP
inductive Kt where
 |is (u:Value)
 |ints (l:l8)
 |rows
 |text
 |bins (L:List (List iY))
 |btext (L:List (List iY))
 |four (h:iY) (L:List (List iY))
 |done(h:iY) (L:List (List iY))
def Kt.holds:Kt->Value->l6->Prop
 |.is u,v,_=>v=u
 |.ints l,v,W=>∃(A:iX)(k:Nat),v=.slice A l.length k/\HB.Rd W W.heap.size 1 A l.length (l.map (Value.int .i64))
 |.rows,v,W=>∃(A:iX)(k:Nat)(R:List SRow),v=.slice A 10 k/\Srs W W.heap.size A 10 R
 |.text,v,_=>∃ x:iY,v=.string x/\x.size<=300000000
 |.bins L,v,W=>∃(A:iX)(k:Nat)(R:List SRow),v=.slice A R.length k/\Srs W W.heap.size A R.length R/\R.map (·.l)=L
 |.btext L,v,_=>∃ ws:l8,v=.string ⟨(zD ws L).toArray⟩/\(zD ws L).length<=300000000
 |.four h L,v,W=>∃(q:Nat)(a b:iY)(ws:l8),v=.slice (some ⟨q,0,none⟩) 4 4/\HB.Rd W W.heap.size 1 (some ⟨q,0,none⟩) 4 [.string h,.string a,.string b,.string ⟨(zD ws L).toArray⟩]/\q<W.heap.size/\a.size<=300000000/\b.size<=300000000/\(zD ws L).length<=300000000
 |.done h L,v,_=>∃(a b:iY)(ws:l8),v=.string ⟨(Lib.join [h.data.toList,a.data.toList,b.data.toList,zD ws L] [10]).toArray⟩/\(Lib.join [h.data.toList,a.data.toList,b.data.toList,zD ws L] [10]).length<=1000000000
theorem Kt.lasts(k:Kt)(v:Value)(W W':l6)(h:k.holds v W)(hb:Below W.heap.size W W'):k.holds v W':=by
 cases k with
 |is u=>exact h
 |ints l=>exact let⟨A,k,h1,h2⟩:=h;⟨A,k,h1,(h2.below hb).mono hb.size⟩
 |rows=>exact let⟨A,k,R,h1,h2⟩:=h;⟨A,k,R,h1,(h2.below hb).mono hb.size⟩
 |text=>exact h
 |bins L=>exact let⟨A,k,R,h1,h2,h3⟩:=h;⟨A,k,R,h1,(h2.below hb).mono hb.size,h3⟩
 |btext L=>exact h
 |four x L=>exact let⟨q,a,b,ws,h1,h2,h3⟩:=h;⟨q,a,b,ws,h1,(h2.below hb).mono hb.size,kK h3.1 hb.size,h3.2⟩
 |done x L=>exact h
section
variable{P:Program}{o:Oper}{act:Act}{W:l6}{k:Kt}{Q:Exit->Act->l6->Prop}
theorem zw{v:Value}{W':l6}(h:(execOp act.eval o).run P W=.ok (.value v) W')(hb:Below W.heap.size W W')(hs:k.holds v W'):o.wp P act W (fun a' w'=>Below W.heap.size W w'/\∃ v,a'=act.put o.dst v/\k.holds v w') Q:=by
 unfold Oper.wp;rw[h];exact⟨hb,v,rfl,hs⟩
theorem jP{f:FuncId}{args:Array Value}(h:(execOp act.eval o).run P W=.ok (.enter f args) W)(hc:Calls P f args W fun e w'=>(∃v,e=.returned v/\k.holds v w')/\Below W.heap.size W w'):o.wp P act W (fun a' w'=>Below W.heap.size W w'/\∃ v,a'=act.put o.dst v/\k.holds v w') Q:=by
 unfold Oper.wp;rw[h];refine Calls.mono hc ?_;rintro e w' ⟨⟨v,rfl,hs⟩,hb⟩;exact⟨hb,v,rfl,hs⟩
end
theorem vo{f:FuncId}{args:Array Value}{W:l6}{l:l8}{base:Nat}(h:Calls prog f args W fun e w'=>∃ v,e=.returned v/\Own w' base 3 1 (fa .i64) v l/\Below W.heap.size W w'):Calls prog f args W fun e w'=>(∃v,e=.returned v/\(Kt.ints l).holds v w')/\Below W.heap.size W w':=
 h.mono fun e w'⟨v,he,ho,hb⟩=>by
  obtain⟨A,k,rfl,-,hr⟩:=ho.shape;exact⟨⟨_,he,A,k,rfl,by rw[<-zt];exact hr⟩,hb⟩
theorem Jm(a b c d:List UInt8):(Lib.join [a,b,c,d] [10]).length=a.length+b.length+c.length+d.length+3:=by
 simp[Lib.join,List.intercalate,List.intersperse];omega
def Gm(w:l6):Prop:=∀ V,Below w.heap.size w V->∀(q:Nat)(a b c d:iY),HB.Rd V V.heap.size 1 (some ⟨q,0,none⟩) 4 [.string a,.string b,.string c,.string d]->a.size+b.size+c.size+d.size<=10000000000->
 Calls prog 110 #[.slice (some ⟨q,0,none⟩) 4 4,.string ⟨#[10]⟩] V (fk (.string ⟨(Lib.join [a.data.toList,b.data.toList,c.data.toList,d.data.toList] [10]).toArray⟩) V)
theorem Un(ws:l8)(h:∀ x∈ws,0<=x/\x<=1000)(L:List (List iY))(hL:∀ r∈L,r.length<=100/\∀ x∈r,x.size<=1000):(zD ws L).length<=L.length*210001:=by
 induction L with
 |nil=>simp[zD]
 |cons r L ih=>
  have h1:=Jc ws h r (hL r (by simp)).2 (hL r (by simp)).1;have h2:=ih (fun x hx=>hL x (by simp[hx]));unfold zD at h2⊢;have h3:(j7 ws r++[10]).length=(j7 ws r).length+1:=by simp
  have h4:(r::L).length=L.length+1:=rfl;rw[QN,kC,h3];omega
theorem KL{V:l6}{A:iX}{n:Nat}(k:Nat){R:List SRow}(hr:Srs V V.heap.size A n R)(hn:n<=1000):Calls prog 111 #[.slice A n k] V fun e w'=>(∃v,e=.returned v/\(Kt.btext (R.map (·.l))).holds v w')/\Below V.heap.size V w':=by
 refine(Ub A n k R V hr hn).mono ?_;rintro e w' ⟨⟨ws,h1,h2,rfl⟩,hb⟩;have h3:=Un ws h2 (R.map (·.l)) (fun r hx=>by
  obtain⟨x,h0,rfl⟩:=Vl.1 hx;have h4:=hr.at_ x h0;exact⟨by rw[h4.len];exact h4.n,h4.x⟩)
 rw[KS,hr.len]at h3;exact⟨⟨_,rfl,ws,rfl,by omega⟩,hb⟩
theorem Jn{V:l6}{A:iX}{n:Nat}(k:Nat){R:List SRow}(hr:Srs V V.heap.size A n R)(hn:n<=1000):Calls prog 111 #[.slice A n k] V fun e w'=>(∃v,e=.returned v/\Kt.text.holds v w')/\Below V.heap.size V w':=
 (KL k hr hn).mono fun e w'⟨⟨v,he,ws,hv,hl⟩,hb⟩=>⟨⟨v,he,_,hv,by show(zD ws _).toArray.size<=_;rw[Wf];exact hl⟩,hb⟩
theorem vC(name:iY)(hn:name.size<=1000)(A:iX)(c:Nat)(l:l8)(w:l6)(hr:HB.Rd w w.heap.size 1 A l.length (l.map (Value.int .i64)))(hl:l.length<=1000)(hp:∀ x∈l,0<=x/\x<=1000000)(hrep:RepOK w):
  Calls prog 18 #[.string name,.slice A l.length c] w (Qm w):=by
 rcases ZW l.length with h0|h0
 ·rw[h0];exact Qn name hn A c w
 ·obtain⟨b,off,rfl,-⟩:=hr.2 h0;have e:l=(l.map Int.toNat).map fun k:Nat=>(k:Int):=by
   rw[iP]
   conv=>lhs;rw[<-List.map_id l]
   refine iL fun x hx=>?_
   have:=hp x hx
   show x=(x.toNat:Int)
   omega
  refine Um name hn b off l.length c (l.map Int.toNat) w ?_ (by simp) h0 hl (fun k hk=>?_) hrep
  ·have h1:=hr;rw[e,iP]at h1;simpa[Function.comp_def]using h1
  ·obtain⟨x,hx,rfl⟩:=Vl.1 hk;have:=hp x hx;omega
theorem Uo(W:l6)(l:List SRow)(n:Nat)(hl:l.length=n)(h:∀ r∈l,SRok W W.heap.size r):Srs (W.alloc (.cells (l.flatMap src).toArray 49)) (W.alloc (.cells (l.flatMap src).toArray 49)).heap.size (some ⟨W.heap.size,0,none⟩) n l:=by
 have hb:Below W.heap.size W (W.alloc (.cells (l.flatMap src).toArray 49)):=by go_grown
 exact⟨(Rd.new W 49 (xs:=l.flatMap src) (n:=n) (sz:=1) (by rw[flat_length Q9,hl])).mono (by simp),hl,fun r hr=>((h r hr).below hb).mono hb.size⟩
theorem Gp(W:l6):SRok (W.alloc (.cells #[.string ⟨#[116,105,99,107,115]⟩,.string ⟨#[109,101,97,110]⟩,.string ⟨#[112,53,48]⟩,.string ⟨#[112,57,48]⟩,.string ⟨#[112,57,53]⟩,.string ⟨#[112,49,48,48]⟩] 9)) (W.heap.size+1)
  ⟨some ⟨W.heap.size,0,none⟩,6,6,[⟨#[116,105,99,107,115]⟩,⟨#[109,101,97,110]⟩,⟨#[112,53,48]⟩,⟨#[112,57,48]⟩,⟨#[112,57,53]⟩,⟨#[112,49,48,48]⟩]⟩:=by
 refine⟨?_,rfl,by show 6<=100;omega,fun b off e=>?_,fun u hu=>?_⟩
 ·exact Rd.new W 9 (xs:=[.string ⟨#[116,105,99,107,115]⟩,.string ⟨#[109,101,97,110]⟩,.string ⟨#[112,53,48]⟩,.string ⟨#[112,57,48]⟩,.string ⟨#[112,57,53]⟩,.string ⟨#[112,49,48,48]⟩]) (n:=6) (sz:=1) rfl
 ·cases e;simp
 ·simp only[qx,Zl,or_false]at hu;rcases hu with rfl|rfl|rfl|rfl|rfl|rfl<;>decide
theorem Gq(s:Sc)(hs:s.ok)(sA:iX)(sn sk:Nat)(tA:iX)(tn tk:Nat)(l:List Tr)(lA:iX)(ln lk:Nat)(R:List LgRow)(u:Int)(w:l6)(hg:Sgs w w.heap.size sA sn s.segs)
  (ht:Trs w w.heap.size tA tn l)(htn:tn<=1000)(hok:∀ t∈l,t.ok)(hl:Lgs w w.heap.size lA ln R)(hln:ln<=20)(hu:yQ u)(hwl:(waits l).length<=1000)(hwp:∀ x∈waits l,0<=x/\x<=1000000)(htl:(zj l).length<=1000)(htp:∀ x∈zj l,0<=x/\x<=1000000)(hwf:∀ x∈waits l,(Lit.int .i64 x).wf=true)(htf:∀ x∈zj l,(Lit.int .i64 x).wf=true)(hrep:RepOK w)(hjo:Gm w)(hhd:(qU s).size<=1000000)(m:Nat)(hm:s.bins=(m:Int))(hrt:eZ m s.width=true):
  Calls prog 80 #[s.v sA sn sk,.agg #[.slice tA tn tk,.slice lA ln lk,O J u]] w fun e w'=>(∃(x y:iY)(ws:l8),e=.returned (.tuple #[.string ⟨(Lib.join [(qU s).data.toList,x.data.toList,y.data.toList,zD ws (zZ m s.width (zo m s.width m (waits l)) (zo m s.width m (zj l)) m)] [10]).toArray⟩,O J 0])/\(Lib.join [(qU s).data.toList,x.data.toList,y.data.toList,zD ws (zZ m s.width (zo m s.width m (waits l)) (zo m s.width m (zj l)) m)] [10]).length<=1000000000)/\Below w.heap.size w w':=by
 have hN:=ze (fun W(hb:Below w.heap.size w W)=>Je s hs sA sn sk w.heap.size W (hg.below hb) hb.size);have HW:=ze (fun W(hb:Below w.heap.size w W)=>vo (uE tA tn tk w.heap.size l W (ht.below hb) hb.size (by omega) hok));have HT:=ze (fun W(hb:Below w.heap.size w W)=>vo (vx tA tn tk w.heap.size l W (ht.below hb) hb.size (by omega) hok));have HN:=ze (CnW.new w (#[O J s.fl,O J s.gap,O J s.cars,O J s.cap,O J s.opn,O J s.dw,O J s.cl,O J s.tr,.slice sA sn sk,O J s.disp,O J s.hor,O J s.bins,O J s.width]) #[.slice tA tn tk,.slice lA ln lk,O J u]);have hw:=ze (fun W(hb:Below w.heap.size w W)=>hrep.below hb);have HJ:=ze (fun V(hb:Below w.heap.size w V)=>hjo V hb);have hI:=ze (fun V(hb:Below w.heap.size w V)=>Xj s hs sA sn sk tA tn tk l lA ln lk R u V ⟨(ht.1.below hb).mono hb.size,ht.2⟩ (by omega) hok ⟨(hl.rows.below hb).mono hb.size,hl.len,fun r hr=>⟨((hl.at_ r hr).1.below hb).mono hb.size,(hl.at_ r hr).2⟩⟩ hln hu);have hP:=hs.bins;rw[hm]at hP;have hJ:=ze hm;clear hm;have hv:=ze hs.width;have hp:=ze hhd;clear hhd;have hM:=ze hrt;clear hg hrep hjo hrt
 go_in
 go_upto_region 4 with(go_at_call 29;(with_reducible refine(hN.o _ (by go_grown)).mono ?_);rintro r w1 ⟨rfl,hz⟩;have HA:=ze (HN.o.below hz);clear hz);generalize hC:qU s=hd at*;have hq:=ze hC;clear hC;refine jG (S:=fun i v W=>(([.is (.pointer (some ⟨w.heap.size+1,0,none⟩)),.is (.slice tA tn tk),.ints (waits l),.is (.pointer (some ⟨w.heap.size+1,0,none⟩)),.is (.slice tA tn tk),.ints (zj l),.ints (waits l),.ints (zj l)]:List Kt).getD i (.is undef)).holds v W) (by rfl) (by kernel_rfl) (fun i v W W' h hb=>Kt.lasts _ v W W' h hb) ⟨?s0,?s1,?s2,?s3,?s4,?s5,?s6,?s7,trivial⟩ (fun act W H=>?fin)
 case s0=>
  intro act W hb ho hn;have e3:act.tmps.getD 3 undef=.pointer (some ⟨w.heap.size+1,0,none⟩):=ho 3 (by kernel_rfl);refine zw (k:=.is (.pointer (some ⟨w.heap.size+1,0,none⟩))) ?_ fh rfl;simp only[execOp,Act.eval,e3];go_simp
 case s1=>
  intro act W hb ho hn;have e:act.tmps.getD 19 undef=.pointer (some ⟨w.heap.size+1,0,none⟩):=hn 0 _ 19 (by kernel_rfl) rfl rfl;have k:=(HA.o.below hb).cell2 0 rfl;refine zw (k:=.is (.slice tA tn tk)) ?_ fh rfl;simp only[execOp,Act.eval,e];go_simp
 case s2=>
  intro act W hb ho hn;have e:act.tmps.getD 20 undef=.slice tA tn tk:=hn 1 _ 20 (by kernel_rfl) rfl rfl;refine jP (k:=.ints (waits l)) (f:=13) (args:= #[.slice tA tn tk]) ?_ (HW.o _ (HA.o.below hb).low);simp only[execOp,Act.eval,e];go_simp
 case s3=>
  intro act W hb ho hn;have e3:act.tmps.getD 3 undef=.pointer (some ⟨w.heap.size+1,0,none⟩):=ho 3 (by kernel_rfl);refine zw (k:=.is (.pointer (some ⟨w.heap.size+1,0,none⟩))) ?_ fh rfl;simp only[execOp,Act.eval,e3];go_simp
 case s4=>
  intro act W hb ho hn;have e:act.tmps.getD 22 undef=.pointer (some ⟨w.heap.size+1,0,none⟩):=hn 3 _ 22 (by kernel_rfl) rfl rfl;have k:=(HA.o.below hb).cell2 0 rfl;refine zw (k:=.is (.slice tA tn tk)) ?_ fh rfl;simp only[execOp,Act.eval,e];go_simp
 case s5=>
  intro act W hb ho hn;have e:act.tmps.getD 23 undef=.slice tA tn tk:=hn 4 _ 23 (by kernel_rfl) rfl rfl;refine jP (k:=.ints (zj l)) (f:=14) (args:= #[.slice tA tn tk]) ?_ (HT.o _ (HA.o.below hb).low);simp only[execOp,Act.eval,e];go_simp
 case s6=>
  intro act W hb ho hn;obtain⟨A,k,e,hr⟩:∃(A:iX)(k:Nat),act.tmps.getD 21 undef=.slice A (waits l).length k/\HB.Rd W W.heap.size 1 A (waits l).length ((waits l).map (Value.int .i64)):=hn 2 _ 21 (by kernel_rfl) rfl rfl;refine zw (k:=.ints (waits l)) (v:=.slice A (waits l).length k) ?_ fh ⟨A,k,rfl,hr⟩;simp only[execOp,Act.eval,e];go_simp
 case s7=>
  intro act W hb ho hn;obtain⟨A,k,e,hr⟩:∃(A:iX)(k:Nat),act.tmps.getD 24 undef=.slice A (zj l).length k/\HB.Rd W W.heap.size 1 A (zj l).length ((zj l).map (Value.int .i64)):=hn 5 _ 24 (by kernel_rfl) rfl rfl;refine zw (k:=.ints (zj l)) (v:=.slice A (zj l).length k) ?_ fh ⟨A,k,rfl,hr⟩;simp only[execOp,Act.eval,e];go_simp
 case fin=>
  obtain⟨xA,xk,e8,hx⟩:∃(A:iX)(k:Nat),act.tmps.getD 8 undef=.slice A (waits l).length k/\HB.Rd W W.heap.size 1 A (waits l).length ((waits l).map (Value.int .i64)):=H.new 6 _ 8 rfl rfl (by kernel_rfl);obtain⟨yA,yk,e9,hy⟩:∃(A:iX)(k:Nat),act.tmps.getD 9 undef=.slice A (zj l).length k/\HB.Rd W W.heap.size 1 A (zj l).length ((zj l).map (Value.int .i64)):=H.new 7 _ 9 rfl rfl (by kernel_rfl);have o0:act.tmps.getD 0 undef=s.v sA sn sk:=H.old 0 (zn (by kernel_rfl));have o1:act.tmps.getD 1 undef=.agg #[.slice tA tn tk,.slice lA ln lk,O J u]:=H.old 1 (zn (by kernel_rfl));have o2:act.tmps.getD 2 undef=.pointer (some ⟨w.heap.size,0,none⟩):=H.old 2 (zn (by kernel_rfl));have o3:act.tmps.getD 3 undef=.pointer (some ⟨w.heap.size+1,0,none⟩):=H.old 3 (zn (by kernel_rfl));have o4:act.tmps.getD 4 undef=.string ⟨#[]⟩:=H.old 4 (zn (by kernel_rfl));have o5:act.tmps.getD 5 undef=O J 0:=H.old 5 (zn (by kernel_rfl));have o6:act.tmps.getD 6 undef=.string hd:=H.old 6 (zn (by kernel_rfl));have o7:act.tmps.getD 7 undef=O J 0:=H.old 7 (zn (by kernel_rfl));have hB:=H.dfr;have hj:=H.siz;have h4:=ze (HA.o.below H.bel);have HX:=ze hx;have HY:=ze hy;obtain⟨tmps,dfr⟩:=act;dsimp only at hB hj e8 e9 o0 o1 o2 o3 o4 o5 o6 o7;subst hB;have e:=fv tmps 48 hj;dsimp only[fB,Nat.reduceAdd]at e;clear H hj hx hy;rw[e8,e9,o0,o1,o2,o3,o4,o5,o6,o7]at e;clear e8 e9 o0 o1 o2 o3 o4 o5 o6 o7;generalize Array.getD tmps=tg at e;subst e;have hc:=ze (fun V(hb:Below W.heap.size W V)=>vC ⟨#[119,97,105,116]⟩ (by decide) xA xk (waits l) V ((HX.o.below hb).mono hb.size) hwl hwp ((hw.o _ h4.o.low).below hb));have hf:=ze (fun V(hb:Below W.heap.size W V)=>vC ⟨#[116,114,97,110,115,105,116]⟩ (by decide) yA yk (zj l) V ((HY.o.below hb).mono hb.size) htl htp ((hw.o _ h4.o.low).below hb));have hL:=ze (Gp W);go_upto_region 6 with(first
   |(go_at_call 18;(with_reducible refine(hc.o _ (by go_grown)).mono ?_);rintro r5 w5 ⟨⟨A5,k5,l5,rfl,h5⟩,h2⟩;have H5:=ze h5;have h6:=ze (((Below.refl W.heap.size W).alloc fi _).trans (h2.mono (by simp)));have hE:=ze ((hL.o.below (h2.mono (by simp))).mono (show W.heap.size+1<=w5.heap.size by have:=h2.size;simpa using this));clear h5 h2)
   |(go_at_call 18;(with_reducible refine(hf.o _ h6.o).mono ?_);rintro r7 w7 ⟨⟨A7,k7,l7,rfl,h7⟩,h1⟩;have H7:=ze h7;have hk:=ze (h6.o.trans (h1.mono h6.o.size));have hD:=ze ((H5.o.below h1).mono h1.size);have hF:=ze ((hE.o.below h1).mono h1.size);clear h7 h1))
  have ha:=ze (Uo w7 [⟨some ⟨W.heap.size,0,none⟩,6,6,[⟨#[116,105,99,107,115]⟩,⟨#[109,101,97,110]⟩,⟨#[112,53,48]⟩,⟨#[112,57,48]⟩,⟨#[112,57,53]⟩,⟨#[112,49,48,48]⟩]⟩,⟨A5,6,k5,l5⟩,⟨A7,6,k7,l7⟩] 3 rfl (by intro r hr;simp only[qx,Zl,or_false]at hr;rcases hr with rfl|rfl|rfl<;>first|exact hF.o|exact hD.o|exact H7.o));have HZ:=ze (hk.o.alloc hk.o.size (.cells #[.slice (some ⟨W.heap.size,0,none⟩) 6 6,.slice A5 6 k5,.slice A7 6 k7] 49));have h0:=ze (h4.o.below HZ.o);generalize hQ:w7.heap.size=q7 at*;have ha:Hz (Srs (w7.alloc (.cells #[.slice (some ⟨W.heap.size,0,none⟩) 6 6,.slice A5 6 k5,.slice A7 6 k7] 49)) (w7.alloc (.cells #[.slice (some ⟨W.heap.size,0,none⟩) 6 6,.slice A5 6 k5,.slice A7 6 k7] 49)).heap.size (some ⟨q7,0,none⟩) 3 _):=ze ha.o;generalize w7.alloc (.cells #[.slice (some ⟨W.heap.size,0,none⟩) 6 6,.slice A5 6 k5,.slice A7 6 k7] 49)=Z at*;refine jG (S:=fun i v W=>(([.is (.string hd),.is (s.v sA sn sk),.is (.agg #[.slice tA tn tk,.slice lA ln lk,O J u]),.rows,.text,.is (.slice (some ⟨q7,0,none⟩) 3 3),.text,.is (.pointer (some ⟨w.heap.size,11,none⟩)),.is (O J s.bins),.is (.pointer (some ⟨w.heap.size,12,none⟩)),.is (O J s.width),.is (.slice xA (waits l).length xk),.is (.slice yA (zj l).length yk),.bins (zZ m s.width (zo m s.width m (waits l)) (zo m s.width m (zj l)) m),.btext (zZ m s.width (zo m s.width m (waits l)) (zo m s.width m (zj l)) m),.four hd (zZ m s.width (zo m s.width m (waits l)) (zo m s.width m (zj l)) m),.done hd (zZ m s.width (zo m s.width m (waits l)) (zo m s.width m (zj l)) m),.done hd (zZ m s.width (zo m s.width m (waits l)) (zo m s.width m (zj l)) m),.is (O J 0)]:List Kt).getD i (.is undef)).holds v W) (by rfl) (by kernel_rfl) (fun i v W W' h hb=>Kt.lasts _ v W W' h hb) ⟨?t0,?t1,?t2,?t3,?t4,?t5,?t6,?t7,?t8,?t9,?t10,?t11,?t12,?t13,?t14,?t15,?t16,?t17,?t18,trivial⟩ (fun act W8 H=>?fin6)
  case t0=>
   intro act V hb ho hn;have e6:act.tmps.getD 6 undef=.string hd:=ho 6 (by kernel_rfl);refine zw (k:=.is (.string hd)) ?_ fh rfl;simp only[execOp,Act.eval,e6];go_simp
  case t1=>
   intro act V hb ho hn;have e2:act.tmps.getD 2 undef=.pointer (some ⟨w.heap.size,0,none⟩):=ho 2 (by kernel_rfl);have k0:=(h0.o.below hb).cell1 0 rfl;have k1:=(h0.o.below hb).cell1 1 rfl;have k2:=(h0.o.below hb).cell1 2 rfl;have k3:=(h0.o.below hb).cell1 3 rfl;have k4:=(h0.o.below hb).cell1 4 rfl;have k5:=(h0.o.below hb).cell1 5 rfl;have k6:=(h0.o.below hb).cell1 6 rfl;have k7:=(h0.o.below hb).cell1 7 rfl;have k8:=(h0.o.below hb).cell1 8 rfl;have k9:=(h0.o.below hb).cell1 9 rfl;have k10:=(h0.o.below hb).cell1 10 rfl;have k11:=(h0.o.below hb).cell1 11 rfl;have k12:=(h0.o.below hb).cell1 12 rfl;refine zw (k:=.is (s.v sA sn sk)) ?_ fh rfl;simp only[execOp,Act.eval,e2];go_simp
  case t2=>
   intro act V hb ho hn;have e3:act.tmps.getD 3 undef=.pointer (some ⟨w.heap.size+1,0,none⟩):=ho 3 (by kernel_rfl);have k0:=(h0.o.below hb).cell2 0 rfl;have k1:=(h0.o.below hb).cell2 1 rfl;have k2:=(h0.o.below hb).cell2 2 rfl;refine zw (k:=.is (.agg #[.slice tA tn tk,.slice lA ln lk,O J u])) ?_ fh rfl;simp only[execOp,Act.eval,e3];go_simp
  case t3=>
   intro act V hb ho hn;have e32:act.tmps.getD 32 undef=(s.v sA sn sk):=hn 1 _ 32 (by kernel_rfl) rfl rfl;have e33:act.tmps.getD 33 undef=(.agg #[.slice tA tn tk,.slice lA ln lk,O J u]):=hn 2 _ 33 (by kernel_rfl) rfl rfl;refine jP (k:=.rows) (f:=112) (args:= #[s.v sA sn sk,.agg #[.slice tA tn tk,.slice lA ln lk,O J u]]) ?_ ((hI.o _ (h0.o.below hb).low).mono fun e w9⟨⟨A,R9,he,h9⟩,hb9⟩=>⟨⟨_,he,A,10,R9,rfl,h9⟩,hb9⟩);simp only[execOp,Act.eval,e32,e33];go_simp
  case t4=>
   intro act V hb ho hn;obtain⟨A,k,R9,e34,h9⟩:∃(A:iX)(k:Nat)(R:List SRow),act.tmps.getD 34 undef=.slice A 10 k/\Srs V V.heap.size A 10 R:=hn 3 _ 34 (by kernel_rfl) rfl rfl;refine jP (k:=.text) (f:=111) (args:= #[.slice A 10 k]) ?_ (Jn k h9 (by omega));simp only[execOp,Act.eval,e34];go_simp
  case t5=>
   intro act V hb ho hn;have e10:act.tmps.getD 10 undef=(.slice (some ⟨q7,0,none⟩) 3 3):=ho 10 (by kernel_rfl);refine zw (k:=.is (.slice (some ⟨q7,0,none⟩) 3 3)) ?_ fh rfl;simp only[execOp,Act.eval,e10];go_simp
  case t6=>
   intro act V hb ho hn;have e36:act.tmps.getD 36 undef=(.slice (some ⟨q7,0,none⟩) 3 3):=hn 5 _ 36 (by kernel_rfl) rfl rfl;refine jP (k:=.text) (f:=111) (args:= #[.slice (some ⟨q7,0,none⟩) 3 3]) ?_ (Jn 3 ((ha.o.below hb).mono hb.size) (by omega));simp only[execOp,Act.eval,e36];go_simp
  case t7=>
   intro act V hb ho hn;have e2:act.tmps.getD 2 undef=.pointer (some ⟨w.heap.size,0,none⟩):=ho 2 (by kernel_rfl);refine zw (k:=.is (.pointer (some ⟨w.heap.size,11,none⟩))) ?_ fh rfl;simp only[execOp,Act.eval,e2];go_simp
  case t8=>
   intro act V hb ho hn;have e38:act.tmps.getD 38 undef=(.pointer (some ⟨w.heap.size,11,none⟩)):=hn 7 _ 38 (by kernel_rfl) rfl rfl;have k:=(h0.o.below hb).cell1 11 rfl;refine zw (k:=.is (O J s.bins)) ?_ fh rfl;simp only[execOp,Act.eval,e38];go_simp
  case t9=>
   intro act V hb ho hn;have e2:act.tmps.getD 2 undef=.pointer (some ⟨w.heap.size,0,none⟩):=ho 2 (by kernel_rfl);refine zw (k:=.is (.pointer (some ⟨w.heap.size,12,none⟩))) ?_ fh rfl;simp only[execOp,Act.eval,e2];go_simp
  case t10=>
   intro act V hb ho hn;have e40:act.tmps.getD 40 undef=(.pointer (some ⟨w.heap.size,12,none⟩)):=hn 9 _ 40 (by kernel_rfl) rfl rfl;have k:=(h0.o.below hb).cell1 12 rfl;refine zw (k:=.is (O J s.width)) ?_ fh rfl;simp only[execOp,Act.eval,e40];go_simp
  case t11=>
   intro act V hb ho hn;have e8:act.tmps.getD 8 undef=(.slice xA (waits l).length xk):=ho 8 (by kernel_rfl);refine zw (k:=.is (.slice xA (waits l).length xk)) ?_ fh rfl;simp only[execOp,Act.eval,e8];go_simp
  case t12=>
   intro act V hb ho hn;have e9:act.tmps.getD 9 undef=(.slice yA (zj l).length yk):=ho 9 (by kernel_rfl);refine zw (k:=.is (.slice yA (zj l).length yk)) ?_ fh rfl;simp only[execOp,Act.eval,e9];go_simp
  case t13=>
   intro act V hb ho hn;have e39:act.tmps.getD 39 undef=(O J s.bins):=hn 8 _ 39 (by kernel_rfl) rfl rfl;have e41:act.tmps.getD 41 undef=(O J s.width):=hn 10 _ 41 (by kernel_rfl) rfl rfl;have e42:act.tmps.getD 42 undef=(.slice xA (waits l).length xk):=hn 11 _ 42 (by kernel_rfl) rfl rfl;have e43:act.tmps.getD 43 undef=(.slice yA (zj l).length yk):=hn 12 _ 43 (by kernel_rfl) rfl rfl;have h3:=HZ.o.trans (hb.mono HZ.o.size);refine jP (k:=.bins (zZ m s.width (zo m s.width m (waits l)) (zo m s.width m (zj l)) m)) (f:=113) (args:= #[O J s.bins,O J s.width,.slice xA (waits l).length xk,.slice yA (zj l).length yk]) ?_ ?_
   ·simp only[execOp,Act.eval,e39,e41,e42,e43];go_simp
   ·rw[hJ.o];exact(Gj m s.width (by omega) (by omega) hv.o.1 hv.o.2 hM.o xA _ xk (waits l) yA _ yk (zj l) V ((HX.o.below h3).mono h3.size) rfl hwl hwf (fun x hx=>(hwp x hx).1) ((HY.o.below h3).mono h3.size) rfl htl htf (fun x hx=>(htp x hx).1)).mono fun e w9⟨⟨A,k,R9,he,h9,hR⟩,hb9⟩=>⟨⟨_,he,A,k,R9,rfl,h9,hR⟩,hb9⟩
  case t14=>
   intro act V hb ho hn;obtain⟨A,k,R9,e44,h9,hR⟩:∃(A:iX)(k:Nat)(R:List SRow),act.tmps.getD 44 undef=.slice A R.length k/\Srs V V.heap.size A R.length R/\R.map (·.l)=(zZ m s.width (zo m s.width m (waits l)) (zo m s.width m (zj l)) m):=hn 13 _ 44 (by kernel_rfl) rfl rfl;have hi:R9.length<=1000:=by have h8:=congrArg List.length hR;simp[zZ]at h8;omega
   refine jP (k:=.btext (zZ m s.width (zo m s.width m (waits l)) (zo m s.width m (zj l)) m)) (f:=111) (args:= #[.slice A R9.length k]) ?_ (by rw[<-hR];exact KL k h9 hi);simp only[execOp,Act.eval,e44];go_simp
  case t15=>
   intro act V hb ho hn;have e31:act.tmps.getD 31 undef=(.string hd):=hn 0 _ 31 (by kernel_rfl) rfl rfl;obtain⟨x35,e35,l35⟩:∃ x:iY,act.tmps.getD 35 undef=.string x/\x.size<=300000000:=hn 4 _ 35 (by kernel_rfl) rfl rfl;obtain⟨x37,e37,l37⟩:∃ x:iY,act.tmps.getD 37 undef=.string x/\x.size<=300000000:=hn 6 _ 37 (by kernel_rfl) rfl rfl;obtain⟨ws,e45,l45⟩:∃ ws:l8,act.tmps.getD 45 undef=.string ⟨(zD ws (zZ m s.width (zo m s.width m (waits l)) (zo m s.width m (zj l)) m)).toArray⟩/\(zD ws (zZ m s.width (zo m s.width m (waits l)) (zo m s.width m (zj l)) m)).length<=300000000:=hn 14 _ 45 (by kernel_rfl) rfl rfl;refine zw (k:=.four hd (zZ m s.width (zo m s.width m (waits l)) (zo m s.width m (zj l)) m)) (W':=V.alloc (.cells #[.string hd,.string x35,.string x37,.string ⟨(zD ws (zZ m s.width (zo m s.width m (waits l)) (zo m s.width m (zj l)) m)).toArray⟩] 9)) (v:=.slice (some ⟨V.heap.size,0,none⟩) 4 4) ?_ (by go_grown) ⟨V.heap.size,x35,x37,ws,rfl,(Rd.new V 9 (xs:=[.string hd,.string x35,.string x37,.string ⟨(zD ws (zZ m s.width (zo m s.width m (waits l)) (zo m s.width m (zj l)) m)).toArray⟩]) (n:=4) (sz:=1) rfl).mono (by simp),by simp,l35,l37,l45⟩;simp only[execOp,W9,JF,Vm,Act.eval,e31,e35,e37,e45];go_simp
  case t16=>
   intro act V hb ho hn;obtain⟨q,x,y,ws,e46,hO,q46,lx,ly,lz⟩:(Kt.four hd (zZ m s.width (zo m s.width m (waits l)) (zo m s.width m (zj l)) m)).holds (act.tmps.getD 46 undef) V:=hn 15 _ 46 (by kernel_rfl) rfl rfl;refine jP (k:=.done hd (zZ m s.width (zo m s.width m (waits l)) (zo m s.width m (zj l)) m)) (f:=110) (args:= #[.slice (some ⟨q,0,none⟩) 4 4,.string ⟨#[10]⟩]) ?_ ((HJ.o _ (h0.o.below hb).low q hd x y _ hO (by have h8:=hp.o;have h9:(⟨(zD ws (zZ m s.width (zo m s.width m (waits l)) (zo m s.width m (zj l)) m)).toArray⟩:iY).size<=300000000:=(by show(zD ws _).toArray.size<=_;rw[Wf];exact lz);omega)).mono fun e w9⟨he,hb9⟩=>⟨⟨_,he,x,y,ws,by simp,vD (Nat.le_of_eq (Jm _ _ _ _)) (by have h8:=hp.o;have z1:hd.data.toList.length=hd.size:=rfl;have z2:x.data.toList.length=x.size:=rfl;have z3:y.data.toList.length=y.size:=rfl;omega)⟩,hb9⟩);simp only[execOp,Act.eval,e46];go_simp
  case t17=>
   intro act V hb ho hn;obtain⟨x,y,ws,e47,l47⟩:(Kt.done hd (zZ m s.width (zo m s.width m (waits l)) (zo m s.width m (zj l)) m)).holds (act.tmps.getD 47 undef) V:=hn 16 _ 47 (by kernel_rfl) rfl rfl;refine zw (k:=.done hd (zZ m s.width (zo m s.width m (waits l)) (zo m s.width m (zj l)) m)) ?_ fh ⟨x,y,ws,rfl,l47⟩;simp only[execOp,Act.eval,e47];go_simp
  case t18=>
   intro act V hb ho hn;refine zw (k:=.is (O J 0)) ?_ fh rfl;simp only[execOp,Act.eval,Act.put];go_simp
  case fin6=>
   obtain⟨x,y,ws,e4,l4⟩:(Kt.done hd (zZ m s.width (zo m s.width m (waits l)) (zo m s.width m (zj l)) m)).holds (act.tmps.getD 4 undef) W8:=H.new 17 _ 4 rfl rfl (by kernel_rfl);have e5:act.tmps.getD 5 undef=O J 0:=H.new 18 _ 5 rfl rfl (by kernel_rfl);have hG:=ze ((h0.o.below H.bel).low);obtain⟨tmps,dfr⟩:=act;have hA:=H.dfr;dsimp only at hA e4 e5;subst hA;go_wp2_with fail;go_ret2;exact⟨⟨x,y,ws,by rw[hq.o,e4,e5],by rw[hq.o];exact l4⟩,hG.o⟩
end
end Go.Proofs.YtdeogmbfgkepeaaGreatDoor
