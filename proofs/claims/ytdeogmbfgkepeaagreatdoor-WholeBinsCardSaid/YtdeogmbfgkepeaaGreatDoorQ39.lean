/- Contracts that WholeBins needs. Each tells its conditions. -/
import Derived.Test.YtdeogmbfgkepeaaGreatDoorQ30
import Derived.Test.YtdeogmbfgkepeaaGreatDoorQ38
set_option linter.unusedVariables false
set_option linter.unusedSimpArgs false
set_option maxRecDepth 100000
set_option maxHeartbeats 64000000
namespace Go.Proofs.YtdeogmbfgkepeaaGreatDoor
open Go.Proofs.Tryz
open Go.Value renaming int->O
open Go.IntKind renaming i64->J
section
open Go.RowKit HB DigP Go.Sort
def RepOK(w:World):Prop:=∀ W,Below w.heap.size w W->∀ x:ByteArray,x.size<=100->Calls prog 38 #[.string x,.string ⟨#[32]⟩,.string ⟨#[43]⟩] W fun e w'=>Xg 1000 e/\Below W.heap.size W w'
theorem RepOK.below{w w':World}(h:RepOK w)(hb:Below w.heap.size w w'):RepOK w':=fun W hW x hx=>h W (hb.trans (hW.mono hb.size)) x hx
theorem StrsQ.info:(prog.info? 9).map (fun i=>(i.zero,i.size,i.bytes))=some (some (.string ⟨#[]⟩),1,16):=by kernel_rfl
def StatsQ(Q:List ByteArray->Prop)(w:World)(e:Ending)(w':World):Prop:=(∃(A:Option Addr)(k:Nat)(l:List ByteArray),e=.returned (.slice A 6 k)/\SRok w' w'.heap.size ⟨A,6,k,l⟩/\Q l)/\Below w.heap.size w w'
def Qm(w:World)(e:Ending)(w':World):Prop:=(∃(A:Option Addr)(k:Nat)(l:List ByteArray),e=.returned (.slice A 6 k)/\SRok w' w'.heap.size ⟨A,6,k,l⟩)/\Below w.heap.size w w'
theorem StatsQ.p{Q:List ByteArray->Prop}{w:World}{e:Ending}{w':World}(h:StatsQ Q w e w'):Qm w e w':=let⟨⟨A,k,l,h1,h2,_⟩,h3⟩:=h;⟨⟨A,k,l,h1,h2⟩,h3⟩
def Jk:ByteArray:=⟨#[110,47,97]⟩
theorem Ul(l:List ByteArray):l.flatMap JZ=l.map Value.string:=by
 induction l with
 |nil=>rfl
 |cons x l ih=>rw[List.flatMap_cons,List.map_cons,ih];rfl
theorem Jl{Q:List ByteArray->Prop}{w wr:World}{v:Value}{l:List ByteArray}(h:Own wr w.heap.size 9 1 JZ v l)(hl:l.length=6)(hx:∀ x∈l,x.size<=1000)(hb:Below w.heap.size w wr)(hq:Q l):StatsQ Q w (.returned v) wr:=by
 obtain⟨A,k,rfl,hk,hr⟩:=h.shape;rw[hl]at hr h⊢;refine⟨⟨A,k,l,rfl,⟨?_,hl,by show 6<=100;omega,fun b off e=>?_,hx⟩,hq⟩,hb⟩
 ·rw[<-Ul];exact hr
 ·obtain⟨b',off',e',hlt,-⟩:=hr.2 (by omega);have:A=some ⟨b,off,none⟩:=e;rw[e']at this;cases this;exact hlt
theorem vB(name:ByteArray)(hn:name.size<=1000)(A:Option Addr)(c:Nat)(w:World):Calls prog 18 #[.string name,.slice A 0 c] w (StatsQ (fun l=>l=[name,Jk,Jk,Jk,Jk,Jk]) w):=by
 have HO0:=ze (Own.block (base:=w.heap.size) (f:=JZ) (sz:=1) w 9 #[.string name] [name] fi rfl (fun _=>rfl) (by simp));go_enter func18,ntmps18;go_wp2_with(first
  |(go_at_call 37;(with_reducible refine(Ji _).mono ?_);rintro r w1 ⟨v1,rfl,ho1,hb1⟩;obtain⟨A1,k1,rfl,-,-⟩:=ho1.shape;have HO1:=ze (HO0.o.below hb1);have HB1:=ze hb1;clear ho1 hb1))
 go_loopw [5,20] (fun v i wr=>∃(j:Nat)(l:List ByteArray),j<=5/\i=O J j/\Own wr w.heap.size 9 1 JZ v l/\l=name::List.replicate j Jk/\(∀x∈l,x.size<=1000)/\Below w.heap.size w wr) (fun _ i _=>5-(intOf i).toNat)
 case atStart=>exact⟨0,[name],by omega,rfl,HO1.o,rfl,fun x hx=>by rw[List.mem_singleton.1 hx];exact hn,((Below.refl _ w).alloc fi _).trans (HB1.o.mono (by simp))⟩
 case round=>
  obtain⟨j,l,hj,rfl,ho,hl0,hx,hb⟩:=hrel;have hl:l.length=j+1:=by rw[hl0];simp
  have HL0:=ze hl0;clear hl0;have HO:=ze ho;have HX:=ze hx;have HB:=ze hb;have hz:=hb.size;clear ho hx hb HO1 HB1;by_cases hlt:j<5
  ·have h2:decide ((j:Int)<5)=true:=by simp;omega
   have hln:l.length<=1000000000:=by omega
   go_wp2_with(at_builtin;refine push rfl _ _ 49 rfl underlying49 StrsQ.info rfl (by omega) (by omega) rfl (HO.o.alloc _) (⟨#[110,47,97]⟩:ByteArray) ⟨_,0,none⟩ 1 rfl rfl (cell_one_new _ _ _) (by simp[Value.oneCell']) hln (by simp;omega) ?_;intro v' w2 hown2 hb2);go_roundw
   case rel=>exact⟨j+1,_,by omega,by go_num,hown2,by rw[HL0.o,List.replicate_succ'];rfl,fun x hx=>(List.mem_append.1 hx).elim (HX.o x) (fun h=>by rw[List.mem_singleton.1 h];decide),(HB.o.alloc hz _).trans hb2⟩
   case measure=>simp[intOf];omega
  ·obtain rfl:j=5:=by omega
   go_wp2_with fail;go_ret;exact Jl HO.o hl HX.o HB.o (by rw[HL0.o];rfl)
theorem Qn(name:ByteArray)(hn:name.size<=1000)(A:Option Addr)(c:Nat)(w:World):Calls prog 18 #[.string name,.slice A 0 c] w (Qm w):=(vB name hn A c w).mono fun _ _ h=>h.p
def PsOK(w:World)(A:Option Addr)(v:Value)(ps:List Int):Prop:=HB.Rd w w.heap.size 1 A 4 (ps.map (Value.int .i64))/\∀ b off,A=some ⟨b,off,none⟩->b<w.heap.size/\v.ownBlock≠some b
theorem PsOK.step{w w':World}{A:Option Addr}{v:Value}{ps:List Int}(h:PsOK w A v ps)(hb:Below w.heap.size w w'):PsOK w' A v ps:=
 ⟨(h.1.below hb).mono hb.size,fun b off e=>⟨Nat.lt_of_lt_of_le (h.2 b off e).1 hb.size,(h.2 b off e).2⟩⟩
theorem PsOK.push{w w':World}{A:Option Addr}{v v':Value}{ps:List Int}(h:PsOK w A v ps)(hg:w.grownBy w' v.ownBlock)(hv:v'.ownBlock=v.ownBlock\/v'.ownBlock=some w.heap.size):PsOK w' A v' ps:=by
 have hb:But (fun k=>v.ownBlock=some k) w w':=(But.refl _ w).grown hg (fun q hq _=>hq);refine⟨(ul h.1 hb (fun b off e=>(h.2 b off e).2)).mono hb.size,fun b off e=>⟨Nat.lt_of_lt_of_le (h.2 b off e).1 hb.size,fun e2=>?_⟩⟩;rcases hv with hv|hv
 ·exact(h.2 b off e).2 (hv▸e2)
 ·have:=(h.2 b off e).1;have h3:w.heap.size=b:=Option.some.inj (hv.symm.trans e2);omega
theorem Yn(p:Int)(l:List Int)(h:∀ x∈l,yQ x):yQ (Ql p l):=by
 unfold Ql;rw[List.getD_eq_getElem?_getD];rcases hx:(qa l)[((l.length:Int)/100*p+((l.length:Int)%100*p+99)/100-1).toNat]? with _|x
 ·exact⟨by show(-9223372036854775808:Int)<=0;omega,by show(0:Int)<=9223372036854775807;omega⟩
 ·exact h x (by have h9:=List.mem_of_getElem? hx;unfold qa at h9;exact List.mem_mergeSort.1 h9)
theorem Gl(ks:List Nat)(h:∀ k∈ks,k<=1000000):ks.sum<=ks.length*1000000:=by
 induction ks with
 |nil=>simp
 |cons k l ih=>
  have h1:=h k (by simp);have h2:=ih (fun x hx=>h x (by simp[hx]));simp only[List.sum_cons,List.length_cons];omega
theorem Z4(name:ByteArray)(hn:name.size<=1000)(b off n c:Nat)(ks:List Nat)(w:World)(hr:Rd w w.heap.size 1 (some ⟨b,off,none⟩) n (ks.map fun k:Nat=>O J (k:Int)))(hl:ks.length=n)(hpos:0<n)(hn1:n<=1000)(hk:∀ k∈ks,k<=1000000)(hrep:RepOK w):
  Calls prog 18 #[.string name,.slice (some ⟨b,off,none⟩) n c] w (StatsQ (fun l=>∃ y:ByteArray,l=name::y::([50,90,95,100]:List Int).map (fun p=>zC (Ql p (ks.map fun k:Nat=>(k:Int))))) w):=by
 have hs:=Gl ks hk;rw[hl]at hs;have hnz:((n:Int)==0)=false:=by simp;omega
 have hq0:0<=(ks.sum:Int)/(n:Int):=Int.ediv_nonneg (by omega) (by omega);have hq1:(ks.sum:Int)/(n:Int)<=(ks.sum:Int):=Int.ediv_le_self _ (by omega);have hm0:0<=(ks.sum:Int)%(n:Int):=Int.emod_nonneg _ (by omega);have hm1:(ks.sum:Int)%(n:Int)<(n:Int):=Int.emod_lt_of_pos _ (by omega);have HM:=ze (fun W(hb:Below w.heap.size w W)=>Jj (some ⟨b,off,none⟩) n c w.heap.size ks W (hr.below hb) hb.size hl (by omega) hpos (by omega));have HT:=ze (fun W=>Ud ((ks.sum:Int)/n) ((ks.sum:Int)%n) n ⟨by omega,by omega⟩ ⟨by omega,by omega⟩ ⟨by omega,by omega⟩ W);have hr2:Rd w w.heap.size 1 (some ⟨b,off,none⟩) n ((ks.map fun k:Nat=>(k:Int)).map (Value.int .i64)):=by rw[List.map_map];exact hr
 have HMY:=ze (fun(Ap:Option Addr)(cp Bp:Nat) W(hp:Rd W Bp 1 Ap 4 (([50,90,95,100]:List Int).map (Value.int .i64)))(hBp:Bp<=W.heap.size)(hb:Below w.heap.size w W)=>
  Uk Ap 4 cp Bp [50,90,95,100] b off n c w.heap.size (ks.map fun k:Nat=>(k:Int)) W hp hBp rfl (by omega) (by intro p hp;simp at hp;rcases hp with rfl|rfl|rfl|rfl<;>omega) (hr2.below hb) hb.size (by simpa using hl) (by omega) hpos)
 have HPX:=ze (fun p=>Yn p (ks.map fun k:Nat=>(k:Int)) (fun x hx=>by
  obtain⟨k,hk1,rfl⟩:=List.mem_map.1 hx;have:=hk k hk1;exact⟨by omega,by omega⟩))
 have HRP:=ze (fun W hb x hx=>hrep W hb x hx);have HO0:=ze (Own.block (base:=w.heap.size) (f:=JZ) (sz:=1) w 9 #[.string name] [name] fi rfl (fun _=>rfl) (by simp));have HB0:=ze (show Below w.heap.size w (w.alloc (.cells #[.string name] 9))from by go_grown);generalize(ks.sum:Int)/(n:Int)=q at*;generalize(ks.sum:Int)%(n:Int)=r at*;clear hr hr2 hrep hs hk hq0 hq1 hm0 hm1;go_enter func18,ntmps18;go_upto_region 11 with(first
  |(go_at_call 19;(with_reducible refine(HM.o _ HB0.o).mono ?_);rintro r1 w1 ⟨rfl,hb1⟩;have HO1:=ze ((HO0.o.below hb1).alloc (.cells #[O J q,O J r,O J n] 60));have HB1:=ze ((HB0.o.trans (hb1.mono HB0.o.size)).alloc (HB0.o.trans (hb1.mono HB0.o.size)).size (.cells #[O J q,O J r,O J n] 60));clear hb1)
  |(go_at_call 39;(with_reducible refine(HT.o _).mono ?_);rintro r2 w2 ⟨⟨x,rfl,hx⟩,hb2⟩;have HO2:=ze (HO1.o.below hb2);have HB2:=ze (HB1.o.trans (hb2.mono HB1.o.size));have HX:=ze hx;clear hb2 hx)
  |(go_at_call 38;(with_reducible refine(HRP.o _ HB2.o x HX.o).mono ?_);rintro r3 w3 ⟨⟨y,rfl,hy⟩,hb3⟩;have HO3:=ze (HO2.o.below hb3);have HB3:=ze (HB2.o.trans (hb3.mono HB2.o.size));have HY:=ze hy;have hz3:=HB3.o.size;clear hb3 hy)
  |(at_builtin;refine push rfl _ _ 49 rfl underlying49 StrsQ.info rfl (by omega) (by omega) rfl (HO3.o.alloc _) y ⟨_,0,none⟩ 1 rfl rfl (cell_one_new _ _ _) (by simp[Value.oneCell']) (by simp) (by simp;omega) ?_;intro v4 w4 hown4 hb4;have HO4:=ze hown4;have HB4:=ze ((HB3.o.alloc hz3 _).trans hb4);clear hown4 hb4)
  |(go_at_call 37;(with_reducible refine(Ji _).mono ?_);rintro r5 w5 ⟨v5,rfl,ho5,hb5⟩;obtain⟨A5,k5,rfl,-,hr5⟩:=ho5.shape;have HO5:=ze (HO4.o.below hb5);have HB5:=ze (HB4.o.trans (hb5.mono HB4.o.size));have HR5:=ze (show HB.Rd w5 w5.heap.size 1 A5 4 (([50,90,95,100]:List Int).map (Value.int .i64))from by rw[<-zt];exact hr5);clear ho5 hb5 hr5)
  |(go_at_call 40;(with_reducible refine(HMY.o A5 k5 _ _ HR5.o fi HB5.o).mono ?_);rintro r6 w6 ⟨v6,rfl,ho6,hb6⟩;obtain⟨A6,k6,hv6,-,hr6⟩:=ho6.shape;have hv6:v6=.slice A6 4 k6:=hv6;subst hv6;have HO6:=ze (HO5.o.below hb6);have HA6:=ze (fun(g:Nat)(e:(Value.slice A6 4 k6).ownBlock=some g)=>(ho6.row.lt g e));have HB6:=ze (HB5.o.trans (hb6.mono HB5.o.size));have HR6:=ze (show HB.Rd w6 w6.heap.size 1 A6 4 ((([50,90,95,100]:List Int).map fun p=>Ql p (ks.map fun k:Nat=>(k:Int))).map (Value.int .i64))from by rw[<-zt];exact hr6);clear ho6 hb6 hr6))
 have hz6:=HB6.o.size;go_wp2_with fail
 go_loopw [5,46] (fun v i wr=>∃(j:Nat)(l:List ByteArray),j<=4/\i=O J j/\Own wr w.heap.size 9 1 JZ v l/\l=name::y::(([50,90,95,100]:List Int).take j).map (fun p=>zC (Ql p (ks.map fun k:Nat=>(k:Int))))/\(∀x∈l,x.size<=1000)/\Below w.heap.size w wr/\PsOK wr A6 v (([50,90,95,100]:List Int).map fun p=>Ql p (ks.map fun k:Nat=>(k:Int)))) (fun _ i _=>4-(intOf i).toNat)
 case atStart=>exact⟨0,_,by omega,rfl,HO6.o,rfl,fun x hx=>(List.mem_append.1 hx).elim (fun h=>by rw[List.mem_singleton.1 h];exact hn) (fun h=>by rw[List.mem_singleton.1 h];exact HY.o),HB6.o,HR6.o,fun g o e=>⟨(HA6.o g (by rw[e];rfl)).2,fun e2=>by have h1:=(HA6.o g (by rw[e];rfl)).1;have h2:=(HO5.o.row.lt g e2).2;omega⟩⟩
 case round=>
  obtain⟨j,l,hj,rfl,ho,hl0,hx9,hb,hb6⟩:=hrel;have hl9:l.length=j+2:=by rw[hl0];simp;omega
  have HL0:=ze hl0;clear hl0;have HO:=ze ho;have HX9:=ze hx9;have HB:=ze hb;have HB9:=ze hb6;have hz:=hb.size;clear ho hx9 hb hb6;by_cases hlt:j<4
  ·have h2:decide ((j:Int)<4)=true:=by simp;omega
   have i0:(0:Int)<=(j:Int):=by omega
   have i1:(j:Int)<4:=by omega
   have hln:l.length<=1000000000:=by omega
   obtain⟨b6,o6,z,rfl,hbb,hgz,cz⟩:=HB9.o.1.int_at rfl hlt;have hz9:yQ z:=by
    obtain⟨p,-,rfl⟩:=List.mem_map.1 (List.mem_of_getElem? hgz);exact HPX.o p
   have HNX:=ze (show l++[zC z]=name::y::(([50,90,95,100]:List Int).take (j+1)).map (fun p=>zC (Ql p (ks.map fun k:Nat=>(k:Int))))from by
    rw[List.getElem?_map,Option.map_eq_some_iff]at hgz;obtain⟨p,hp,rfl⟩:=hgz;rw[HL0.o,List.take_add_one,hp,List.map_append];rfl)
   have HDG:=ze (fun W=>ja z hz9 W);have HSZ:=ze (jc z hz9);clear hgz hz9;go_wp2_with(first
    |(go_at_call 21;(with_reducible refine(HDG.o _).mono ?_);rintro r7 w7 ⟨rfl,hb7⟩;have HO7:=ze (HO.o.below hb7);have HB7:=ze (HB.o.trans (hb7.mono hz));have HC7:=ze ((HB9.o.step hb7).step ((Below.refl w7.heap.size w7).alloc fi (.cells #[.string (zC z)] 9)));have hz7:=HB7.o.size;clear hb7)
    |(at_builtin;refine kG (P:=prog) rfl _ _ 49 rfl underlying49 StrsQ.info rfl (by omega) (by omega) rfl (HO7.o.alloc _) (zC z) ⟨_,0,none⟩ 1 rfl rfl (cell_one_new _ _ _) (by simp[Value.oneCell']) hln (by simp;omega) ?_;intro v' w8 k1 k2 k3;have K1:=ze k1;have K2:=ze ((HB7.o.alloc hz7 _).grown k2 (by simp;omega) (fun k hk=>(HO7.o.row.lt k hk).1));have K3:=ze (HC7.o.push k2 k3);clear k1 k2 k3))
   go_roundw
   case rel=>exact⟨j+1,_,by omega,by go_num,K1.o,HNX.o,fun x hx=>(List.mem_append.1 hx).elim (HX9.o x) (fun h=>by rw[List.mem_singleton.1 h];have:=HSZ.o;omega),K2.o,K3.o⟩
   case measure=>simp[intOf];omega
  ·obtain rfl:j=4:=by omega
   go_wp2_with fail;go_ret;exact Jl HO.o hl9 HX9.o HB.o ⟨y,by rw[HL0.o];rfl⟩
theorem Um(name:ByteArray)(hn:name.size<=1000)(b off n c:Nat)(ks:List Nat)(w:World)(hr:Rd w w.heap.size 1 (some ⟨b,off,none⟩) n (ks.map fun k:Nat=>O J (k:Int)))(hl:ks.length=n)(hpos:0<n)(hn1:n<=1000)(hk:∀ k∈ks,k<=1000000)(hrep:RepOK w):
  Calls prog 18 #[.string name,.slice (some ⟨b,off,none⟩) n c] w (Qm w):=(Z4 name hn b off n c ks w hr hl hpos hn1 hk hrep).mono fun _ _ h=>h.p
end
section
open Go.RowKit HB DigP HistP
inductive Kt where
 |is (u:Value)
 |ints (l:List Int)
 |rows
 |text
 |bins (L:List (List ByteArray))
 |btext (L:List (List ByteArray))
 |four (h:ByteArray) (L:List (List ByteArray))
 |done(h:ByteArray) (L:List (List ByteArray))
def Kt.holds:Kt->Value->World->Prop
 |.is u,v,_=>v=u
 |.ints l,v,W=>∃(A:Option Addr)(k:Nat),v=.slice A l.length k/\HB.Rd W W.heap.size 1 A l.length (l.map (Value.int .i64))
 |.rows,v,W=>∃(A:Option Addr)(k:Nat)(R:List SRow),v=.slice A 10 k/\Srs W W.heap.size A 10 R
 |.text,v,_=>∃ x:ByteArray,v=.string x/\x.size<=300000000
 |.bins L,v,W=>∃(A:Option Addr)(k:Nat)(R:List SRow),v=.slice A R.length k/\Srs W W.heap.size A R.length R/\R.map (·.l)=L
 |.btext L,v,_=>∃ ws:List Int,v=.string ⟨(zD ws L).toArray⟩/\(zD ws L).length<=300000000
 |.four h L,v,W=>∃(q:Nat)(a b:ByteArray)(ws:List Int),v=.slice (some ⟨q,0,none⟩) 4 4/\HB.Rd W W.heap.size 1 (some ⟨q,0,none⟩) 4 [.string h,.string a,.string b,.string ⟨(zD ws L).toArray⟩]/\q<W.heap.size/\a.size<=300000000/\b.size<=300000000/\(zD ws L).length<=300000000
 |.done h L,v,_=>∃(a b:ByteArray)(ws:List Int),v=.string ⟨(Lib.join [h.data.toList,a.data.toList,b.data.toList,zD ws L] [10]).toArray⟩/\(Lib.join [h.data.toList,a.data.toList,b.data.toList,zD ws L] [10]).length<=1000000000
theorem Kt.lasts(k:Kt)(v:Value)(W W':World)(h:k.holds v W)(hb:Below W.heap.size W W'):k.holds v W':=by
 cases k with
 |is u=>exact h
 |ints l=>exact let⟨A,k,h1,h2⟩:=h;⟨A,k,h1,(h2.below hb).mono hb.size⟩
 |rows=>exact let⟨A,k,R,h1,h2⟩:=h;⟨A,k,R,h1,(h2.below hb).mono hb.size⟩
 |text=>exact h
 |bins L=>exact let⟨A,k,R,h1,h2,h3⟩:=h;⟨A,k,R,h1,(h2.below hb).mono hb.size,h3⟩
 |btext L=>exact h
 |four x L=>exact let⟨q,a,b,ws,h1,h2,h3⟩:=h;⟨q,a,b,ws,h1,(h2.below hb).mono hb.size,Nat.lt_of_lt_of_le h3.1 hb.size,h3.2⟩
 |done x L=>exact h
section
variable{P:Program}{o:Oper}{act:Act}{W:World}{k:Kt}{Q:Exit->Act->World->Prop}
theorem zw{v:Value}{W':World}(h:(execOp act.eval o).run P W=.ok (.value v) W')(hb:Below W.heap.size W W')(hs:k.holds v W'):o.wp P act W (fun a' w'=>Below W.heap.size W w'/\∃ v,a'=act.put o.dst v/\k.holds v w') Q:=by
 unfold Oper.wp;rw[h];exact⟨hb,v,rfl,hs⟩
theorem jP{f:FuncId}{args:Array Value}(h:(execOp act.eval o).run P W=.ok (.enter f args) W)(hc:Calls P f args W fun e w'=>(∃v,e=.returned v/\k.holds v w')/\Below W.heap.size W w'):o.wp P act W (fun a' w'=>Below W.heap.size W w'/\∃ v,a'=act.put o.dst v/\k.holds v w') Q:=by
 unfold Oper.wp;rw[h];refine Calls.mono hc ?_;rintro e w' ⟨⟨v,rfl,hs⟩,hb⟩;exact⟨hb,v,rfl,hs⟩
end
theorem vo{f:FuncId}{args:Array Value}{W:World}{l:List Int}{base:Nat}(h:Calls prog f args W fun e w'=>∃ v,e=.returned v/\Own w' base 3 1 (fa .i64) v l/\Below W.heap.size W w'):Calls prog f args W fun e w'=>(∃v,e=.returned v/\(Kt.ints l).holds v w')/\Below W.heap.size W w':=
 h.mono fun e w'⟨v,he,ho,hb⟩=>by
  obtain⟨A,k,rfl,-,hr⟩:=ho.shape;exact⟨⟨_,he,A,k,rfl,by rw[<-zt];exact hr⟩,hb⟩
theorem Jm(a b c d:List UInt8):(Lib.join [a,b,c,d] [10]).length=a.length+b.length+c.length+d.length+3:=by
 simp[Lib.join,List.intercalate,List.intersperse];omega
def Gm(w:World):Prop:=∀ V,Below w.heap.size w V->∀(q:Nat)(a b c d:ByteArray),HB.Rd V V.heap.size 1 (some ⟨q,0,none⟩) 4 [.string a,.string b,.string c,.string d]->a.size+b.size+c.size+d.size<=10000000000->
 Calls prog 110 #[.slice (some ⟨q,0,none⟩) 4 4,.string ⟨#[10]⟩] V (fk (.string ⟨(Lib.join [a.data.toList,b.data.toList,c.data.toList,d.data.toList] [10]).toArray⟩) V)
theorem Un(ws:List Int)(h:∀ x∈ws,0<=x/\x<=1000)(L:List (List ByteArray))(hL:∀ r∈L,r.length<=100/\∀ x∈r,x.size<=1000):(zD ws L).length<=L.length*210001:=by
 induction L with
 |nil=>simp[zD]
 |cons r L ih=>
  have h1:=Jc ws h r (hL r (by simp)).2 (hL r (by simp)).1;have h2:=ih (fun x hx=>hL x (by simp[hx]));unfold zD at h2⊢;have h3:(j7 ws r++[10]).length=(j7 ws r).length+1:=by simp
  have h4:(r::L).length=L.length+1:=rfl;rw[List.flatMap_cons,List.length_append,h3];omega
theorem KL{V:World}{A:Option Addr}{n:Nat}(k:Nat){R:List SRow}(hr:Srs V V.heap.size A n R)(hn:n<=1000):Calls prog 111 #[.slice A n k] V fun e w'=>(∃v,e=.returned v/\(Kt.btext (R.map (·.l))).holds v w')/\Below V.heap.size V w':=by
 refine(Ub A n k R V hr hn).mono ?_;rintro e w' ⟨⟨ws,h1,h2,rfl⟩,hb⟩;have h3:=Un ws h2 (R.map (·.l)) (fun r hx=>by
  obtain⟨x,hx9,rfl⟩:=List.mem_map.1 hx;have h4:=hr.at_ x hx9;exact⟨by rw[h4.len];exact h4.n,h4.x⟩)
 rw[List.length_map,hr.len]at h3;exact⟨⟨_,rfl,ws,rfl,by omega⟩,hb⟩
theorem Jn{V:World}{A:Option Addr}{n:Nat}(k:Nat){R:List SRow}(hr:Srs V V.heap.size A n R)(hn:n<=1000):Calls prog 111 #[.slice A n k] V fun e w'=>(∃v,e=.returned v/\Kt.text.holds v w')/\Below V.heap.size V w':=
 (KL k hr hn).mono fun e w'⟨⟨v,he,ws,hv,hl⟩,hb⟩=>⟨⟨v,he,_,hv,by show(zD ws _).toArray.size<=_;rw[List.size_toArray];exact hl⟩,hb⟩
theorem vC(name:ByteArray)(hn:name.size<=1000)(A:Option Addr)(c:Nat)(l:List Int)(w:World)(hr:HB.Rd w w.heap.size 1 A l.length (l.map (Value.int .i64)))(hl:l.length<=1000)(hp:∀ x∈l,0<=x/\x<=1000000)(hrep:RepOK w):
  Calls prog 18 #[.string name,.slice A l.length c] w (Qm w):=by
 rcases Nat.eq_zero_or_pos l.length with h0|h0
 ·rw[h0];exact Qn name hn A c w
 ·obtain⟨b,off,rfl,-⟩:=hr.2 h0;have e:l=(l.map Int.toNat).map fun k:Nat=>(k:Int):=by
   rw[List.map_map]
   conv=>lhs;rw[<-List.map_id l]
   refine List.map_congr_left fun x hx=>?_
   have:=hp x hx
   show x=(x.toNat:Int)
   omega
  refine Um name hn b off l.length c (l.map Int.toNat) w ?_ (by simp) h0 hl (fun k hk=>?_) hrep
  ·have hr2:=hr;rw[e,List.map_map]at hr2;simpa[Function.comp_def]using hr2
  ·obtain⟨x,hx,rfl⟩:=List.mem_map.1 hk;have:=hp x hx;omega
theorem Uo(W:World)(l:List SRow)(n:Nat)(hl:l.length=n)(h:∀ r∈l,SRok W W.heap.size r):Srs (W.alloc (.cells (l.flatMap src).toArray 49)) (W.alloc (.cells (l.flatMap src).toArray 49)).heap.size (some ⟨W.heap.size,0,none⟩) n l:=by
 have hb:Below W.heap.size W (W.alloc (.cells (l.flatMap src).toArray 49)):=by go_grown
 exact⟨(Rd.new W 49 (xs:=l.flatMap src) (n:=n) (sz:=1) (by rw[flat_length Q9,hl])).mono (by simp),hl,fun r hr=>((h r hr).below hb).mono hb.size⟩
theorem Gp(W:World):SRok (W.alloc (.cells #[.string ⟨#[116,105,99,107,115]⟩,.string ⟨#[109,101,97,110]⟩,.string ⟨#[112,53,48]⟩,.string ⟨#[112,57,48]⟩,.string ⟨#[112,57,53]⟩,.string ⟨#[112,49,48,48]⟩] 9)) (W.heap.size+1)
  ⟨some ⟨W.heap.size,0,none⟩,6,6,[⟨#[116,105,99,107,115]⟩,⟨#[109,101,97,110]⟩,⟨#[112,53,48]⟩,⟨#[112,57,48]⟩,⟨#[112,57,53]⟩,⟨#[112,49,48,48]⟩]⟩:=by
 refine⟨?_,rfl,by show 6<=100;omega,fun b off e=>?_,fun u hu=>?_⟩
 ·exact Rd.new W 9 (xs:=[.string ⟨#[116,105,99,107,115]⟩,.string ⟨#[109,101,97,110]⟩,.string ⟨#[112,53,48]⟩,.string ⟨#[112,57,48]⟩,.string ⟨#[112,57,53]⟩,.string ⟨#[112,49,48,48]⟩]) (n:=6) (sz:=1) rfl
 ·cases e;simp
 ·simp only[List.mem_cons,List.not_mem_nil,or_false]at hu;rcases hu with rfl|rfl|rfl|rfl|rfl|rfl<;>decide
theorem Gq(s:Sc)(hs:s.ok)(sA:Option Addr)(sn sk:Nat)(tA:Option Addr)(tn tk:Nat)(l:List Tr)(lA:Option Addr)(ln lk:Nat)(R:List LgRow)(u:Int)(w:World)(hg:Sgs w w.heap.size sA sn s.segs)
  (ht:Trs w w.heap.size tA tn l)(htn:tn<=1000)(hok:∀ t∈l,t.ok)(hl:Lgs w w.heap.size lA ln R)(hln:ln<=20)(hu:yQ u)(hwl:(waits l).length<=1000)(hwp:∀ x∈waits l,0<=x/\x<=1000000)(htl:(zj l).length<=1000)(htp:∀ x∈zj l,0<=x/\x<=1000000)(hwf:∀ x∈waits l,(Lit.int .i64 x).wf=true)(htf:∀ x∈zj l,(Lit.int .i64 x).wf=true)(hrep:RepOK w)(hjo:Gm w)(hhd:(qU s).size<=1000000)(m:Nat)(hm:s.bins=(m:Int))(hrt:eZ m s.width=true):
  Calls prog 80 #[s.v sA sn sk,.agg #[.slice tA tn tk,.slice lA ln lk,O J u]] w fun e w'=>(∃(x y:ByteArray)(ws:List Int),e=.returned (.tuple #[.string ⟨(Lib.join [(qU s).data.toList,x.data.toList,y.data.toList,zD ws (zZ m s.width (zo m s.width m (waits l)) (zo m s.width m (zj l)) m)] [10]).toArray⟩,O J 0])/\(Lib.join [(qU s).data.toList,x.data.toList,y.data.toList,zD ws (zZ m s.width (zo m s.width m (waits l)) (zo m s.width m (zj l)) m)] [10]).length<=1000000000)/\Below w.heap.size w w':=by
 have HSH:=ze (fun W(hb:Below w.heap.size w W)=>Je s hs sA sn sk w.heap.size W (hg.below hb) hb.size);have HW:=ze (fun W(hb:Below w.heap.size w W)=>vo (uE tA tn tk w.heap.size l W (ht.below hb) hb.size (by omega) hok));have HT:=ze (fun W(hb:Below w.heap.size w W)=>vo (vx tA tn tk w.heap.size l W (ht.below hb) hb.size (by omega) hok));have HN:=ze (CnW.new w (#[O J s.fl,O J s.gap,O J s.cars,O J s.cap,O J s.opn,O J s.dw,O J s.cl,O J s.tr,.slice sA sn sk,O J s.disp,O J s.hor,O J s.bins,O J s.width]) #[.slice tA tn tk,.slice lA ln lk,O J u]);have HRP:=ze (fun W(hb:Below w.heap.size w W)=>hrep.below hb);have HJ:=ze (fun V(hb:Below w.heap.size w V)=>hjo V hb);have HCN:=ze (fun V(hb:Below w.heap.size w V)=>Xj s hs sA sn sk tA tn tk l lA ln lk R u V ⟨(ht.1.below hb).mono hb.size,ht.2⟩ (by omega) hok ⟨(hl.rows.below hb).mono hb.size,hl.len,fun r hr=>⟨((hl.at_ r hr).1.below hb).mono hb.size,(hl.at_ r hr).2⟩⟩ hln hu);have hm1:=hs.bins;rw[hm]at hm1;have HMM:=ze hm;clear hm;have HMW:=ze hs.width;have HHD:=ze hhd;clear hhd;have HRT:=ze hrt;clear hg hrep hjo hrt;go_enter func80,ntmps80;go_upto_region 4 with(go_at_call 29;(with_reducible refine(HSH.o _ (by go_grown)).mono ?_);rintro r w1 ⟨rfl,hb1⟩;have HA:=ze (HN.o.below hb1);clear hb1);generalize hhs:qU s=hd at*;have HHS:=ze hhs;clear hhs;refine jG (S:=fun i v W=>(([.is (.pointer (some ⟨w.heap.size+1,0,none⟩)),.is (.slice tA tn tk),.ints (waits l),.is (.pointer (some ⟨w.heap.size+1,0,none⟩)),.is (.slice tA tn tk),.ints (zj l),.ints (waits l),.ints (zj l)]:List Kt).getD i (.is undef)).holds v W) (by rfl) (by kernel_rfl) (fun i v W W' h hb=>Kt.lasts _ v W W' h hb) ⟨?s0,?s1,?s2,?s3,?s4,?s5,?s6,?s7,trivial⟩ (fun act W H=>?fin)
 case s0=>
  intro act W hb ho hn;have e3:act.tmps.getD 3 undef=.pointer (some ⟨w.heap.size+1,0,none⟩):=ho 3 (by kernel_rfl);refine zw (k:=.is (.pointer (some ⟨w.heap.size+1,0,none⟩))) ?_ fh rfl;simp only[execOp,Act.eval,e3];go_simp
 case s1=>
  intro act W hb ho hn;have e:act.tmps.getD 19 undef=.pointer (some ⟨w.heap.size+1,0,none⟩):=hn 0 _ 19 (by kernel_rfl) rfl rfl;have k:=(HA.o.below hb).cell2 0 rfl;refine zw (k:=.is (.slice tA tn tk)) ?_ fh rfl;simp only[execOp,Act.eval,e];go_simp
 case s2=>
  intro act W hb ho hn;have e:act.tmps.getD 20 undef=.slice tA tn tk:=hn 1 _ 20 (by kernel_rfl) rfl rfl;refine jP (k:=.ints (waits l)) (f:=13) (args:= #[.slice tA tn tk]) ?_ (HW.o _ (HA.o.below hb).low);simp only[execOp,Act.eval,e];go_simp
 case s3=>
  intro act W hb ho hn;have e3:act.tmps.getD 3 undef=.pointer (some ⟨w.heap.size+1,0,none⟩):=ho 3 (by kernel_rfl);refine zw (k:=.is (.pointer (some ⟨w.heap.size+1,0,none⟩))) ?_ fh rfl;simp only[execOp,Act.eval,e3];go_simp
 case s4=>
  intro act W hb ho hn;have e:act.tmps.getD 22 undef=.pointer (some ⟨w.heap.size+1,0,none⟩):=hn 3 _ 22 (by kernel_rfl) rfl rfl;have k:=(HA.o.below hb).cell2 0 rfl;refine zw (k:=.is (.slice tA tn tk)) ?_ fh rfl;simp only[execOp,Act.eval,e];go_simp
 case s5=>
  intro act W hb ho hn;have e:act.tmps.getD 23 undef=.slice tA tn tk:=hn 4 _ 23 (by kernel_rfl) rfl rfl;refine jP (k:=.ints (zj l)) (f:=14) (args:= #[.slice tA tn tk]) ?_ (HT.o _ (HA.o.below hb).low);simp only[execOp,Act.eval,e];go_simp
 case s6=>
  intro act W hb ho hn;obtain⟨A,k,e,hr⟩:∃(A:Option Addr)(k:Nat),act.tmps.getD 21 undef=.slice A (waits l).length k/\HB.Rd W W.heap.size 1 A (waits l).length ((waits l).map (Value.int .i64)):=hn 2 _ 21 (by kernel_rfl) rfl rfl;refine zw (k:=.ints (waits l)) (v:=.slice A (waits l).length k) ?_ fh ⟨A,k,rfl,hr⟩;simp only[execOp,Act.eval,e];go_simp
 case s7=>
  intro act W hb ho hn;obtain⟨A,k,e,hr⟩:∃(A:Option Addr)(k:Nat),act.tmps.getD 24 undef=.slice A (zj l).length k/\HB.Rd W W.heap.size 1 A (zj l).length ((zj l).map (Value.int .i64)):=hn 5 _ 24 (by kernel_rfl) rfl rfl;refine zw (k:=.ints (zj l)) (v:=.slice A (zj l).length k) ?_ fh ⟨A,k,rfl,hr⟩;simp only[execOp,Act.eval,e];go_simp
 case fin=>
  obtain⟨xA,xk,e8,hx⟩:∃(A:Option Addr)(k:Nat),act.tmps.getD 8 undef=.slice A (waits l).length k/\HB.Rd W W.heap.size 1 A (waits l).length ((waits l).map (Value.int .i64)):=H.new 6 _ 8 rfl rfl (by kernel_rfl);obtain⟨yA,yk,e9,hy⟩:∃(A:Option Addr)(k:Nat),act.tmps.getD 9 undef=.slice A (zj l).length k/\HB.Rd W W.heap.size 1 A (zj l).length ((zj l).map (Value.int .i64)):=H.new 7 _ 9 rfl rfl (by kernel_rfl);have o0:act.tmps.getD 0 undef=s.v sA sn sk:=H.old 0 (zn (by kernel_rfl));have o1:act.tmps.getD 1 undef=.agg #[.slice tA tn tk,.slice lA ln lk,O J u]:=H.old 1 (zn (by kernel_rfl));have o2:act.tmps.getD 2 undef=.pointer (some ⟨w.heap.size,0,none⟩):=H.old 2 (zn (by kernel_rfl));have o3:act.tmps.getD 3 undef=.pointer (some ⟨w.heap.size+1,0,none⟩):=H.old 3 (zn (by kernel_rfl));have o4:act.tmps.getD 4 undef=.string ⟨#[]⟩:=H.old 4 (zn (by kernel_rfl));have o5:act.tmps.getD 5 undef=O J 0:=H.old 5 (zn (by kernel_rfl));have o6:act.tmps.getD 6 undef=.string hd:=H.old 6 (zn (by kernel_rfl));have o7:act.tmps.getD 7 undef=O J 0:=H.old 7 (zn (by kernel_rfl));have hd9:=H.dfr;have hsz:=H.siz;have HA4:=ze (HA.o.below H.bel);have HX:=ze hx;have HY:=ze hy;obtain⟨tmps,dfr⟩:=act;dsimp only at hd9 hsz e8 e9 o0 o1 o2 o3 o4 o5 o6 o7;subst hd9;have e:=fv tmps 48 hsz;dsimp only[fB,Nat.reduceAdd]at e;clear H hsz hx hy;rw[e8,e9,o0,o1,o2,o3,o4,o5,o6,o7]at e;clear e8 e9 o0 o1 o2 o3 o4 o5 o6 o7;generalize Array.getD tmps=tg at e;subst e;have HST1:=ze (fun V(hb:Below W.heap.size W V)=>vC ⟨#[119,97,105,116]⟩ (by decide) xA xk (waits l) V ((HX.o.below hb).mono hb.size) hwl hwp ((HRP.o _ HA4.o.low).below hb));have HST2:=ze (fun V(hb:Below W.heap.size W V)=>vC ⟨#[116,114,97,110,115,105,116]⟩ (by decide) yA yk (zj l) V ((HY.o.below hb).mono hb.size) htl htp ((HRP.o _ HA4.o.low).below hb));have HR6:=ze (Gp W);go_upto_region 6 with(first
   |(go_at_call 18;(with_reducible refine(HST1.o _ (by go_grown)).mono ?_);rintro r5 w5 ⟨⟨A5,k5,l5,rfl,h5⟩,hb5⟩;have H5:=ze h5;have HB5:=ze (((Below.refl W.heap.size W).alloc fi _).trans (hb5.mono (by simp)));have H65:=ze ((HR6.o.below (hb5.mono (by simp))).mono (show W.heap.size+1<=w5.heap.size by have:=hb5.size;simpa using this));clear h5 hb5)
   |(go_at_call 18;(with_reducible refine(HST2.o _ HB5.o).mono ?_);rintro r7 w7 ⟨⟨A7,k7,l7,rfl,h7⟩,hb7⟩;have H7:=ze h7;have HB7:=ze (HB5.o.trans (hb7.mono HB5.o.size));have H57:=ze ((H5.o.below hb7).mono hb7.size);have H67:=ze ((H65.o.below hb7).mono hb7.size);clear h7 hb7))
  have HSR:=ze (Uo w7 [⟨some ⟨W.heap.size,0,none⟩,6,6,[⟨#[116,105,99,107,115]⟩,⟨#[109,101,97,110]⟩,⟨#[112,53,48]⟩,⟨#[112,57,48]⟩,⟨#[112,57,53]⟩,⟨#[112,49,48,48]⟩]⟩,⟨A5,6,k5,l5⟩,⟨A7,6,k7,l7⟩] 3 rfl (by intro r hr;simp only[List.mem_cons,List.not_mem_nil,or_false]at hr;rcases hr with rfl|rfl|rfl<;>first|exact H67.o|exact H57.o|exact H7.o));have HZ:=ze (HB7.o.alloc HB7.o.size (.cells #[.slice (some ⟨W.heap.size,0,none⟩) 6 6,.slice A5 6 k5,.slice A7 6 k7] 49));have HAZ:=ze (HA4.o.below HZ.o);generalize hq7:w7.heap.size=q7 at*;have HSR:Hz (Srs (w7.alloc (.cells #[.slice (some ⟨W.heap.size,0,none⟩) 6 6,.slice A5 6 k5,.slice A7 6 k7] 49)) (w7.alloc (.cells #[.slice (some ⟨W.heap.size,0,none⟩) 6 6,.slice A5 6 k5,.slice A7 6 k7] 49)).heap.size (some ⟨q7,0,none⟩) 3 _):=ze HSR.o;generalize w7.alloc (.cells #[.slice (some ⟨W.heap.size,0,none⟩) 6 6,.slice A5 6 k5,.slice A7 6 k7] 49)=Z at*;refine jG (S:=fun i v W=>(([.is (.string hd),.is (s.v sA sn sk),.is (.agg #[.slice tA tn tk,.slice lA ln lk,O J u]),.rows,.text,.is (.slice (some ⟨q7,0,none⟩) 3 3),.text,.is (.pointer (some ⟨w.heap.size,11,none⟩)),.is (O J s.bins),.is (.pointer (some ⟨w.heap.size,12,none⟩)),.is (O J s.width),.is (.slice xA (waits l).length xk),.is (.slice yA (zj l).length yk),.bins (zZ m s.width (zo m s.width m (waits l)) (zo m s.width m (zj l)) m),.btext (zZ m s.width (zo m s.width m (waits l)) (zo m s.width m (zj l)) m),.four hd (zZ m s.width (zo m s.width m (waits l)) (zo m s.width m (zj l)) m),.done hd (zZ m s.width (zo m s.width m (waits l)) (zo m s.width m (zj l)) m),.done hd (zZ m s.width (zo m s.width m (waits l)) (zo m s.width m (zj l)) m),.is (O J 0)]:List Kt).getD i (.is undef)).holds v W) (by rfl) (by kernel_rfl) (fun i v W W' h hb=>Kt.lasts _ v W W' h hb) ⟨?t0,?t1,?t2,?t3,?t4,?t5,?t6,?t7,?t8,?t9,?t10,?t11,?t12,?t13,?t14,?t15,?t16,?t17,?t18,trivial⟩ (fun act W8 H=>?fin6)
  case t0=>
   intro act V hb ho hn;have e6:act.tmps.getD 6 undef=.string hd:=ho 6 (by kernel_rfl);refine zw (k:=.is (.string hd)) ?_ fh rfl;simp only[execOp,Act.eval,e6];go_simp
  case t1=>
   intro act V hb ho hn;have e2:act.tmps.getD 2 undef=.pointer (some ⟨w.heap.size,0,none⟩):=ho 2 (by kernel_rfl);have k0:=(HAZ.o.below hb).cell1 0 rfl;have k1:=(HAZ.o.below hb).cell1 1 rfl;have k2:=(HAZ.o.below hb).cell1 2 rfl;have k3:=(HAZ.o.below hb).cell1 3 rfl;have k4:=(HAZ.o.below hb).cell1 4 rfl;have k5:=(HAZ.o.below hb).cell1 5 rfl;have k6:=(HAZ.o.below hb).cell1 6 rfl;have k7:=(HAZ.o.below hb).cell1 7 rfl;have k8:=(HAZ.o.below hb).cell1 8 rfl;have k9:=(HAZ.o.below hb).cell1 9 rfl;have k10:=(HAZ.o.below hb).cell1 10 rfl;have k11:=(HAZ.o.below hb).cell1 11 rfl;have k12:=(HAZ.o.below hb).cell1 12 rfl;refine zw (k:=.is (s.v sA sn sk)) ?_ fh rfl;simp only[execOp,Act.eval,e2];go_simp
  case t2=>
   intro act V hb ho hn;have e3:act.tmps.getD 3 undef=.pointer (some ⟨w.heap.size+1,0,none⟩):=ho 3 (by kernel_rfl);have k0:=(HAZ.o.below hb).cell2 0 rfl;have k1:=(HAZ.o.below hb).cell2 1 rfl;have k2:=(HAZ.o.below hb).cell2 2 rfl;refine zw (k:=.is (.agg #[.slice tA tn tk,.slice lA ln lk,O J u])) ?_ fh rfl;simp only[execOp,Act.eval,e3];go_simp
  case t3=>
   intro act V hb ho hn;have e32:act.tmps.getD 32 undef=(s.v sA sn sk):=hn 1 _ 32 (by kernel_rfl) rfl rfl;have e33:act.tmps.getD 33 undef=(.agg #[.slice tA tn tk,.slice lA ln lk,O J u]):=hn 2 _ 33 (by kernel_rfl) rfl rfl;refine jP (k:=.rows) (f:=112) (args:= #[s.v sA sn sk,.agg #[.slice tA tn tk,.slice lA ln lk,O J u]]) ?_ ((HCN.o _ (HAZ.o.below hb).low).mono fun e w9⟨⟨A,R9,he,h9⟩,hb9⟩=>⟨⟨_,he,A,10,R9,rfl,h9⟩,hb9⟩);simp only[execOp,Act.eval,e32,e33];go_simp
  case t4=>
   intro act V hb ho hn;obtain⟨A,k,R9,e34,h9⟩:∃(A:Option Addr)(k:Nat)(R:List SRow),act.tmps.getD 34 undef=.slice A 10 k/\Srs V V.heap.size A 10 R:=hn 3 _ 34 (by kernel_rfl) rfl rfl;refine jP (k:=.text) (f:=111) (args:= #[.slice A 10 k]) ?_ (Jn k h9 (by omega));simp only[execOp,Act.eval,e34];go_simp
  case t5=>
   intro act V hb ho hn;have e10:act.tmps.getD 10 undef=(.slice (some ⟨q7,0,none⟩) 3 3):=ho 10 (by kernel_rfl);refine zw (k:=.is (.slice (some ⟨q7,0,none⟩) 3 3)) ?_ fh rfl;simp only[execOp,Act.eval,e10];go_simp
  case t6=>
   intro act V hb ho hn;have e36:act.tmps.getD 36 undef=(.slice (some ⟨q7,0,none⟩) 3 3):=hn 5 _ 36 (by kernel_rfl) rfl rfl;refine jP (k:=.text) (f:=111) (args:= #[.slice (some ⟨q7,0,none⟩) 3 3]) ?_ (Jn 3 ((HSR.o.below hb).mono hb.size) (by omega));simp only[execOp,Act.eval,e36];go_simp
  case t7=>
   intro act V hb ho hn;have e2:act.tmps.getD 2 undef=.pointer (some ⟨w.heap.size,0,none⟩):=ho 2 (by kernel_rfl);refine zw (k:=.is (.pointer (some ⟨w.heap.size,11,none⟩))) ?_ fh rfl;simp only[execOp,Act.eval,e2];go_simp
  case t8=>
   intro act V hb ho hn;have e38:act.tmps.getD 38 undef=(.pointer (some ⟨w.heap.size,11,none⟩)):=hn 7 _ 38 (by kernel_rfl) rfl rfl;have k:=(HAZ.o.below hb).cell1 11 rfl;refine zw (k:=.is (O J s.bins)) ?_ fh rfl;simp only[execOp,Act.eval,e38];go_simp
  case t9=>
   intro act V hb ho hn;have e2:act.tmps.getD 2 undef=.pointer (some ⟨w.heap.size,0,none⟩):=ho 2 (by kernel_rfl);refine zw (k:=.is (.pointer (some ⟨w.heap.size,12,none⟩))) ?_ fh rfl;simp only[execOp,Act.eval,e2];go_simp
  case t10=>
   intro act V hb ho hn;have e40:act.tmps.getD 40 undef=(.pointer (some ⟨w.heap.size,12,none⟩)):=hn 9 _ 40 (by kernel_rfl) rfl rfl;have k:=(HAZ.o.below hb).cell1 12 rfl;refine zw (k:=.is (O J s.width)) ?_ fh rfl;simp only[execOp,Act.eval,e40];go_simp
  case t11=>
   intro act V hb ho hn;have e8:act.tmps.getD 8 undef=(.slice xA (waits l).length xk):=ho 8 (by kernel_rfl);refine zw (k:=.is (.slice xA (waits l).length xk)) ?_ fh rfl;simp only[execOp,Act.eval,e8];go_simp
  case t12=>
   intro act V hb ho hn;have e9:act.tmps.getD 9 undef=(.slice yA (zj l).length yk):=ho 9 (by kernel_rfl);refine zw (k:=.is (.slice yA (zj l).length yk)) ?_ fh rfl;simp only[execOp,Act.eval,e9];go_simp
  case t13=>
   intro act V hb ho hn;have e39:act.tmps.getD 39 undef=(O J s.bins):=hn 8 _ 39 (by kernel_rfl) rfl rfl;have e41:act.tmps.getD 41 undef=(O J s.width):=hn 10 _ 41 (by kernel_rfl) rfl rfl;have e42:act.tmps.getD 42 undef=(.slice xA (waits l).length xk):=hn 11 _ 42 (by kernel_rfl) rfl rfl;have e43:act.tmps.getD 43 undef=(.slice yA (zj l).length yk):=hn 12 _ 43 (by kernel_rfl) rfl rfl;have hbV:=HZ.o.trans (hb.mono HZ.o.size);refine jP (k:=.bins (zZ m s.width (zo m s.width m (waits l)) (zo m s.width m (zj l)) m)) (f:=113) (args:= #[O J s.bins,O J s.width,.slice xA (waits l).length xk,.slice yA (zj l).length yk]) ?_ ?_
   ·simp only[execOp,Act.eval,e39,e41,e42,e43];go_simp
   ·rw[HMM.o];exact(Gj m s.width (by omega) (by omega) HMW.o.1 HMW.o.2 HRT.o xA _ xk (waits l) yA _ yk (zj l) V ((HX.o.below hbV).mono hbV.size) rfl hwl hwf (fun x hx=>(hwp x hx).1) ((HY.o.below hbV).mono hbV.size) rfl htl htf (fun x hx=>(htp x hx).1)).mono fun e w9⟨⟨A,k,R9,he,h9,hR⟩,hb9⟩=>⟨⟨_,he,A,k,R9,rfl,h9,hR⟩,hb9⟩
  case t14=>
   intro act V hb ho hn;obtain⟨A,k,R9,e44,h9,hR⟩:∃(A:Option Addr)(k:Nat)(R:List SRow),act.tmps.getD 44 undef=.slice A R.length k/\Srs V V.heap.size A R.length R/\R.map (·.l)=(zZ m s.width (zo m s.width m (waits l)) (zo m s.width m (zj l)) m):=hn 13 _ 44 (by kernel_rfl) rfl rfl;have hlen:R9.length<=1000:=by have h8:=congrArg List.length hR;simp[zZ]at h8;omega
   refine jP (k:=.btext (zZ m s.width (zo m s.width m (waits l)) (zo m s.width m (zj l)) m)) (f:=111) (args:= #[.slice A R9.length k]) ?_ (by rw[<-hR];exact KL k h9 hlen);simp only[execOp,Act.eval,e44];go_simp
  case t15=>
   intro act V hb ho hn;have e31:act.tmps.getD 31 undef=(.string hd):=hn 0 _ 31 (by kernel_rfl) rfl rfl;obtain⟨x35,e35,l35⟩:∃ x:ByteArray,act.tmps.getD 35 undef=.string x/\x.size<=300000000:=hn 4 _ 35 (by kernel_rfl) rfl rfl;obtain⟨x37,e37,l37⟩:∃ x:ByteArray,act.tmps.getD 37 undef=.string x/\x.size<=300000000:=hn 6 _ 37 (by kernel_rfl) rfl rfl;obtain⟨ws,e45,l45⟩:∃ ws:List Int,act.tmps.getD 45 undef=.string ⟨(zD ws (zZ m s.width (zo m s.width m (waits l)) (zo m s.width m (zj l)) m)).toArray⟩/\(zD ws (zZ m s.width (zo m s.width m (waits l)) (zo m s.width m (zj l)) m)).length<=300000000:=hn 14 _ 45 (by kernel_rfl) rfl rfl;refine zw (k:=.four hd (zZ m s.width (zo m s.width m (waits l)) (zo m s.width m (zj l)) m)) (W':=V.alloc (.cells #[.string hd,.string x35,.string x37,.string ⟨(zD ws (zZ m s.width (zo m s.width m (waits l)) (zo m s.width m (zj l)) m)).toArray⟩] 9)) (v:=.slice (some ⟨V.heap.size,0,none⟩) 4 4) ?_ (by go_grown) ⟨V.heap.size,x35,x37,ws,rfl,(Rd.new V 9 (xs:=[.string hd,.string x35,.string x37,.string ⟨(zD ws (zZ m s.width (zo m s.width m (waits l)) (zo m s.width m (zj l)) m)).toArray⟩]) (n:=4) (sz:=1) rfl).mono (by simp),by simp,l35,l37,l45⟩;simp only[execOp,List.map_toArray,List.map_cons,List.map_nil,Act.eval,e31,e35,e37,e45];go_simp
  case t16=>
   intro act V hb ho hn;obtain⟨q,x,y,ws,e46,h46,q46,lx,ly,lz⟩:(Kt.four hd (zZ m s.width (zo m s.width m (waits l)) (zo m s.width m (zj l)) m)).holds (act.tmps.getD 46 undef) V:=hn 15 _ 46 (by kernel_rfl) rfl rfl;refine jP (k:=.done hd (zZ m s.width (zo m s.width m (waits l)) (zo m s.width m (zj l)) m)) (f:=110) (args:= #[.slice (some ⟨q,0,none⟩) 4 4,.string ⟨#[10]⟩]) ?_ ((HJ.o _ (HAZ.o.below hb).low q hd x y _ h46 (by have h8:=HHD.o;have h9:(⟨(zD ws (zZ m s.width (zo m s.width m (waits l)) (zo m s.width m (zj l)) m)).toArray⟩:ByteArray).size<=300000000:=(by show(zD ws _).toArray.size<=_;rw[List.size_toArray];exact lz);omega)).mono fun e w9⟨he,hb9⟩=>⟨⟨_,he,x,y,ws,by simp,Nat.le_trans (Nat.le_of_eq (Jm _ _ _ _)) (by have h8:=HHD.o;have z1:hd.data.toList.length=hd.size:=rfl;have z2:x.data.toList.length=x.size:=rfl;have z3:y.data.toList.length=y.size:=rfl;omega)⟩,hb9⟩);simp only[execOp,Act.eval,e46];go_simp
  case t17=>
   intro act V hb ho hn;obtain⟨x,y,ws,e47,l47⟩:(Kt.done hd (zZ m s.width (zo m s.width m (waits l)) (zo m s.width m (zj l)) m)).holds (act.tmps.getD 47 undef) V:=hn 16 _ 47 (by kernel_rfl) rfl rfl;refine zw (k:=.done hd (zZ m s.width (zo m s.width m (waits l)) (zo m s.width m (zj l)) m)) ?_ fh ⟨x,y,ws,rfl,l47⟩;simp only[execOp,Act.eval,e47];go_simp
  case t18=>
   intro act V hb ho hn;refine zw (k:=.is (O J 0)) ?_ fh rfl;simp only[execOp,Act.eval,Act.put];go_simp
  case fin6=>
   obtain⟨x,y,ws,e4,l4⟩:(Kt.done hd (zZ m s.width (zo m s.width m (waits l)) (zo m s.width m (zj l)) m)).holds (act.tmps.getD 4 undef) W8:=H.new 17 _ 4 rfl rfl (by kernel_rfl);have e5:act.tmps.getD 5 undef=O J 0:=H.new 18 _ 5 rfl rfl (by kernel_rfl);have HB8:=ze ((HAZ.o.below H.bel).low);obtain⟨tmps,dfr⟩:=act;have hd8:=H.dfr;dsimp only at hd8 e4 e5;subst hd8;go_wp2_with fail;go_ret2;exact⟨⟨x,y,ws,by rw[HHS.o,e4,e5],by rw[HHS.o];exact l4⟩,HB8.o⟩
end
end Go.Proofs.YtdeogmbfgkepeaaGreatDoor
