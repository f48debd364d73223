/- Contracts for WholeDelivers. -/
import Derived.Deep.DeepMust
import Derived.Laws.BytesArg
import Derived.Laws.MathBits
import Derived.Lib.AppendStr
import Derived.Test.YtdeogmbfgkepeaaGreatDoorR15
set_option linter.unusedVariables false
set_option linter.unusedSimpArgs false
set_option maxRecDepth 100000
set_option maxHeartbeats 64000000
namespace Go.Proofs.YtdeogmbfgkepeaaGreatDoor
open Go.Proofs.Tryz
open Go.Value renaming int->O
open Go.IntKind renaming i64->J,u64->U
section
open Go.RowKit HB DigP
theorem Byte.info:(prog.info? 5).map (fun i=>(i.zero,i.size,i.bytes))=some (some (.int .u8 0),1,1):=by kernel_rfl
abbrev YR(w:l6)(base:Nat)(v:Value)(l:l8):Prop:=Own w base 5 1 (fa .u8) v l
def QP(n:Nat):l8:=(jN n).map fun c=>(c.toNat:Int)
theorem WM(k:Nat):∀ n,n<10^(k+1)->(jN n).length<=k+1:=by
 induction k with
 |zero=>intro n h;rw[qH (by simpa using h)];simp
 |succ k ih=>
  intro n h;by_cases h1:n<10
  ·rw[qH h1];simp
  ·rw[kQ h1,kC];have:=ih (n/10) (by rw[Nat.pow_succ]at h;omega);simp only[Zn,KN];omega
theorem aF(n:Nat)(h:n<18446744073709551616):(QP n).length<=20:=by
 unfold QP;rw[KS];exact WM 19 n (by omega)
theorem cu{n:Nat}(h:n<10):QP n=[((48+n:Nat):Int)]:=by
 unfold QP;rw[qH h,JF,jJ h];rfl
theorem cw{n:Nat}(h:¬ n<10):QP n=QP (n/10)++[((48+n%10:Nat):Int)]:=by
 unfold QP;rw[kQ h,XW,JF,jJ (by omega)];rfl
theorem aG(n:Nat):strOfNums (QP n)=⟨(jN n).toArray⟩:=by
 unfold strOfNums QP;rw[iP]
 congr 2
 conv=>rhs;rw[<-List.map_id (jN n)]
 apply iL;intro c hc;simp
def jh(n:Nat):iY:=⟨(jN n).toArray⟩
theorem kj(N:Nat)(hN:N<18446744073709551616)(w:l6):Calls prog 65 #[O U N] w (fk (.string (jh N)) w):=by
 have hL:=aF N hN
 go_in
 go_wp2_with fail
 go_loopw [0,3,4] (fun n v ok wr=>∃(m:Nat)(l:l8)(b:Bool),m<=N/\n=O U m/\ok=.bool b/\YR wr w.heap.size v l/\fj w wr/\(if b then QP N=QP m++l else QP N=l)/\l.length<=20) (fun n _ ok _=>match ok with|.bool true=>(intOf n).toNat+1|_=>0)
 case atStart=>exact⟨N,[],true,fi,rfl,rfl,Own.nil _ _ _ _ _,fh,by simp,by simp⟩
 case round=>
  obtain⟨m,l,b,hm,rfl,rfl,h6,hb,hd,hl⟩:=hrel;have HO:=ze h6;have HB:=ze hb;clear h6 hb;obtain⟨A,c,rfl,-,hr⟩:=HO.o.shape;have HR:=ze hr;clear hr;cases b with
  |false=>
   rw[if_neg (by decide)]at hd;have ks:∀ dst,prog.underlying dst=some .string->(convert 121 dst (.slice A l.length c)).run prog wr=.ok (.string (jh N)) wr:=by
    intro dst hc;cases A with
    |none=>
     have h0:l=[]:=by
      rcases ZW l.length with h0|h0
      ·exact yj h0
      ·obtain⟨b,off,hA,_⟩:=HR.o.2 h0;cases hA
     have h2:=qh N;have h3:(QP N).length=(jN N).length:=by unfold QP;simp
     rw[hd,h0]at h3;simp only[KN]at h3;omega
    |some ad=>
     obtain⟨b,off,p⟩:=ad;have h7:0<l.length:=by rw[<-hd];unfold QP;rw[KS];exact qh N
     obtain⟨b',off',hA,-,h4⟩:=HR.o.2 h7;injection hA with hA;rw[hA];have hx:=run_convert_bytes_arg (P:=prog) wr 121 5 underlying121 underlying5 b' off' l.length c l rfl (fun i hi=>by
      refine h4 i _ ?_;rw[zt,QL,QR,kD hi];rfl) dst hc
     rw[hx,<-hd,aG];rfl
   go_wp2_with fail;go_ret;exact⟨rfl,HB.o⟩
  |true=>
   rw[if_pos rfl]at hd;have ha:=ze (HR.o.below (((Below.refl wr.heap.size wr).alloc fi (.cells #[.int .u8 (48+(m:Int)%10)] 5))));have HN:=ze (Own.block (base:=w.heap.size) (f:=fa .u8) (sz:=1) wr 5 #[.int .u8 (48+(m:Int)%10)] [48+(m:Int)%10] HB.o.size rfl (fun _=>rfl) (by simp));have hz:=HB.o.size;go_wp2_with(at_builtin;refine qe rfl _ _ 121 rfl underlying121 Byte.info rfl (by omega) (by omega) rfl HN.o l _ A l.length c rfl rfl ha.o (by rintro u hu;simp only[zt,Vl]at hu;obtain⟨x,-,rfl⟩:=hu;rfl) (by simp) (by omega) (by simp;omega) ?_;intro v' w2 h1 h9);by_cases h8:m<10
   ·have e0:(m:Int)/10=((0:Nat):Int):=by omega
    have e1:decide ((m:Int)/10>0)=false:=by simp;omega
    rw[cu h8]at hd;have h5:QP N=[48+(m:Int)%10]++l:=by rw[hd];congr 2;omega
    have hl':=congrArg List.length h5;refine⟨⟨m/10,_,false,by omega,by norm_cast,by simp;omega,h1,HB.o.trans (((Below.refl w.heap.size wr).alloc hz _).trans h9),?_,?_⟩,?_⟩
    ·rw[if_neg (by decide)];exact h5
    ·rw[<-hl'];exact hL
    ·rw[show decide (0<(m:Int)/10)=false from by simp;omega];simp[intOf]
   ·rw[cw h8]at hd;have h5:QP N=QP (m/10)++([48+(m:Int)%10]++l):=by rw[hd,bU];congr 2
    have hl':=congrArg List.length h5;rw[kC]at hl';refine⟨⟨m/10,_,true,by omega,by norm_cast,by simp;omega,h1,HB.o.trans (((Below.refl w.heap.size wr).alloc hz _).trans h9),?_,?_⟩,?_⟩
    ·rw[if_pos rfl];exact h5
    ·omega
    ·rw[show decide (0<(m:Int)/10)=true from by simp;omega];simp[intOf];omega
def yQ(n:Int):Prop:=-9223372036854775808<=n/\n<=9223372036854775807
theorem cC(n:Int)(h0: -9223372036854775808<=n)(hn:n<0):bits .xor .i64 (-1) n=-n-1:=by
 have e:BitVec.ofInt 64 (-1)^^^BitVec.ofInt 64 n= ~~~ (BitVec.ofInt 64 n):=by
  rw[show BitVec.ofInt 64 (-1)=BitVec.allOnes 64 from by decide,BitVec.xor_comm,BitVec.xor_allOnes]
 show IntKind.i64.wrap ((BitVec.ofInt 64 (-1)^^^BitVec.ofInt 64 n).toNat:Nat)=-n-1
 have h2:(BitVec.ofInt 64 n).toNat=(n+18446744073709551616).toNat:=by
  rw[iT];omega
 rw[e,BitVec.toNat_not,h2,JH];omega
theorem xH(n:Int)(h:yQ n)(w:l6):Calls prog 60 #[O J n] w (fm (O U (n.natAbs:Int)) w):=by
 obtain⟨h0,h1⟩:=h;by_cases hn:n<0
 ·have e0:decide (n<0)=true:=by simp[hn]
  go_in
  go_wp2_with fail;go_ret;refine⟨?_,rfl⟩
  show Ending.returned (O U (IntKind.u64.wrap (IntKind.u64.wrap (bits BinOp.xor IntKind.i64 (-1) n)+1)))=_
  rw[cC n h0 hn];have:IntKind.u64.wrap (IntKind.u64.wrap (-n-1)+1)=(n.natAbs:Int):=by simp only[IntKind.wrap_u64];omega
  rw[this]
 ·have e0:decide (n<0)=false:=by simp;omega
  go_in
  go_wp2_with fail;go_ret;refine⟨?_,rfl⟩
  show Ending.returned (O U n)=_
  rw[show(n.natAbs:Int)=n from by omega]
def cd(s:iY):iY:=⟨#[45]⟩++s
def zC(n:Int):iY:=if n<0 then cd (jh n.natAbs)else jh n.natAbs
theorem kR(n:Nat)(h:n<18446744073709551616):(jh n).size<=20:=by
 have:=WM 19 n (by omega);simpa[jh,ByteArray.size]using this
theorem lh(n:Int)(h:yQ n)(w:l6):Calls prog 45 #[O J n] w (fk (.string (zC n)) w):=by
 have HH:=ze h;obtain⟨h0,h1⟩:=h;by_cases hn:n<0
 ·have e0:decide (n<0)=true:=by simp[hn]
  have hz:¬ 9223372036854775807<1+(jh n.natAbs).size:=by have:=kR n.natAbs (by omega);omega
  go_in
  go_wp2_with(first
   |(go_at_call 60;(with_reducible refine(xH n HH.o _).mono ?_);rintro r w1 ⟨rfl,rfl⟩)
   |(go_at_call 65;(with_reducible refine(kj n.natAbs (by omega) _).mono ?_);rintro r w2 ⟨rfl,hb⟩))
  go_ret;refine⟨?_,hb⟩;unfold zC;rw[if_pos hn]
  rfl
 ·have e0:decide (n<0)=false:=by simp;omega
  obtain⟨k,rfl⟩:∃ k:Nat,n=k:=⟨n.toNat,by omega⟩
  go_in
  go_wp2_with(go_at_call 65;(refine(kj k (by omega) _).mono ?_);rintro r w2 ⟨rfl,hb⟩);go_ret;refine⟨?_,hb⟩;unfold zC;rw[if_neg (by omega)]
  rfl
theorem ja(n:Int)(h:yQ n)(w:l6):Calls prog 21 #[O J n] w (fk (.string (zC n)) w):=by
 have HH:=ze h;obtain⟨h0,h1⟩:=h
 go_in
 go_wp2_with(go_at_call 45;(refine(lh n HH.o _).mono ?_);rintro r w2 ⟨rfl,hb⟩);go_ret;exact⟨rfl,hb⟩
theorem Y8{k k':IntKind}{a b c d:Int}(h:a=c)(h':b=d):Ending.returned (.tuple #[.int k a,.int k' b])=.returned (.tuple #[.int k c,.int k' d]):=by rw[h,h']
theorem yC(a b:Nat)(ha:a<2147483648)(hb:b<2147483648)(w:l6):Calls prog 59 #[O U a,O U b] w (fm (.tuple #[O U 0,O U (a*b:Nat)]) w):=by
 have h0:(a:Int)/4294967296=0:=by omega
 have h2:(b:Int)/4294967296=0:=by omega
 have h1:bits .and .u64 (a:Int) 4294967295=a:=by rw[and_low32 _ (by omega) (by omega)];omega
 have h3:bits .and .u64 (b:Int) 4294967295=b:=by rw[and_low32 _ (by omega) (by omega)];omega
 have hp:a*b<2147483648*2147483648:=Nat.mul_lt_mul'' ha hb
 go_in
 go_wp2_with fail;go_ret2;refine⟨Y8 ?_ ?_,rfl⟩
 ·rw[<-Int.natCast_mul];generalize a*b=p at hp;rw[and_low32 _ (by omega) (by omega),IntKind.wrap_u64,IntKind.wrap_u64];omega
 ·rfl
theorem JV(op:BinOp)(x y:Nat)(hx:x<9223372036854775808)(hy:y<9223372036854775808):bits .xor .i64 (x:Int) (y:Int)=((x^^^y:Nat):Int)/\bits .and .i64 (x:Int) (y:Int)=((x&&&y:Nat):Int):=by
 have h1:x^^^y<2^63:=Nat.xor_lt_two_pow (by omega) (by omega);have h2:x&&&y<2^63:=Nat.and_lt_two_pow x (by omega);constructor
 ·show IntKind.i64.wrap ((BitVec.ofInt 64 (x:Int)^^^BitVec.ofInt 64 (y:Int)).toNat:Nat)=_
  rw[ah,ah,BitVec.toNat_xor,iS,iS,iy (by omega),iy (by omega),JH];omega
 ·show IntKind.i64.wrap ((BitVec.ofInt 64 (x:Int)&&&BitVec.ofInt 64 (y:Int)).toNat:Nat)=_
  rw[ah,ah,BitVec.toNat_and,iS,iS,iy (by omega),iy (by omega),JH];omega
theorem VJ(a b:Nat)(ha:a<4611686018427387904)(hb:b<4611686018427387904):0<=bits .and .i64 (bits .xor .i64 (a:Int) ((a:Int)+(b:Int))) (bits .xor .i64 (b:Int) ((a:Int)+(b:Int))):=by
 have e:(a:Int)+(b:Int)=((a+b:Nat):Int):=by omega
 have h1:a^^^(a+b)<2^63:=Nat.xor_lt_two_pow (by omega) (by omega);have h2:b^^^(a+b)<2^63:=Nat.xor_lt_two_pow (by omega) (by omega);rw[e,(JV .and a (a+b) (by omega) (by omega)).1,(JV .and b (a+b) (by omega) (by omega)).1,(JV .and _ _ (by omega) (by omega)).2];omega
theorem vV(a:Int)(ha:0<=a)(ha1:a<9223372036854775808)(w:l6):Calls prog 61 #[O U a,.bool false] w (fm (.tuple #[O J a,O J 0]) w):=by
 have e0:decide (9223372036854775808<=a)=false:=by simp;omega
 have e1:IntKind.i64.wrap a=a:=by rw[JH];omega
 go_in
 go_wp2_with fail;go_ret2;exact⟨rfl,rfl⟩
theorem xI(a b:Nat)(ha:a<4611686018427387904)(hb:b<4611686018427387904)(w:l6):Calls prog 35 #[O J a,O J b] w (fm (.tuple #[O J (a+b:Nat),O J 0]) w):=by
 have h:=VJ a b ha hb
 go_in
 go_wp2_with fail
 all_goals go_ret2
 all_goals first
  |(exfalso;omega)
  |exact⟨rfl,rfl⟩
theorem Ki(a:Nat)(h:a<9223372036854775808)(w:l6):Calls prog 60 #[O J a] w (fm (O U a) w):=
 (xH a ⟨by omega,by omega⟩ w).mono fun _ _ h=>h
theorem J5(a b:Nat)(ha:a<2147483648)(hb:b<2147483648)(w:l6):Calls prog 34 #[O J a,O J b] w (fm (.tuple #[O J (a*b:Nat),O J 0]) w):=by
 have hp:a*b<2147483648*2147483648:=Nat.mul_lt_mul'' ha hb;have eA:decide ((a:Int)<0)=false:=by simp
 have eB:decide ((b:Int)<0)=false:=by simp
 have HA:=ze (Ki a (by omega) w);have HB:=ze (Ki b (by omega) w);have HM:=ze (yC a b ha hb w);have HS:=ze (vV ((a*b:Nat):Int) (by omega) (by omega) w)
 go_in
 go_wp2_with(first
  |(go_at_call 60;(with_reducible refine HA.o.mono ?_);rintro r w1 ⟨rfl,rfl⟩)
  |(go_at_call 60;(with_reducible refine HB.o.mono ?_);rintro r w1 ⟨rfl,rfl⟩)
  |(go_at_call 59;(refine HM.o.mono ?_);rintro r w1 ⟨rfl,rfl⟩)
  |(go_at_call 61;(refine HS.o.mono ?_);rintro r w1 ⟨rfl,rfl⟩))
 go_ret2;exact⟨rfl,rfl⟩
theorem Ya(N i:Nat)(h:i<(jh N).size):(jN N)[i]?=some ((jh N)[i]'h):=by
 have h':i<(jN N).length:=by simpa[jh,ByteArray.size]using h
 rw[kD h']
 rfl
theorem JY(N i:Nat)(h:i<(jh N).size):48<=((jh N)[i]'h).toNat/\((jh N)[i]'h).toNat<=57/\val ((jN N).take (i+1))=val ((jN N).take i)*10+(((jh N)[i]'h).toNat-48):=by
 have e:=Ya N i h;have h1:=JR N _ (jx e);exact⟨h1.1,h1.2,Zp _ _ _ e⟩
theorem Kl(N:Nat)(h:0<(jh N).size)(h1:1<(jh N).size):((jh N)[0]'h).toNat≠48:=by
 have e:=Ya N 0 h;obtain⟨c,t,h2,h3⟩:=WL N (by simpa[jh,ByteArray.size]using h1);rw[h2]at e;simp only[List.getElem?_cons_zero,Gv]at e;rw[<-e];intro h4;exact h3 (UInt8.toNat_inj.1 h4)
def aV(s:iY):l8:=s.data.toList.map fun b=>(b.toNat:Int)
theorem U7(s:iY):(aV s).flatMap (fa .u8)=Lib.strCells s:=by
 rw[zt];simp[aV,Lib.strCells]
theorem Xd(s:iY):(aV s).length=s.size:=by
 show(List.map _ _).length=s.data.size
 rw[KS,Wh]
theorem aW(s:iY):strOfNums (aV s)=s:=by
 unfold strOfNums aV;rw[iP];have:(List.map ((fun n:Int=>UInt8.ofNat n.toNat)∘fun b:UInt8=>(b.toNat:Int)) s.data.toList)=s.data.toList:=by
  conv=>rhs;rw[<-List.map_id s.data.toList]
  apply iL;intro c hc;simp
 rw[this]
theorem G4{base:Nat}{w:l6}{v:Value}{l:l8}{ops:Array Oper}{rest:List Oper}{o:Oper}{a:Act}{Q:Exit->Act->l6->Prop}(hgd:o.guard=none)(s x:Operand)(t u:TypeId)
  (ho:o.op=.call {callee:=.builtin .append,args:= #[s,x],argTypes:= #[t,u]})(ht:prog.underlying t=some (.slice 5))(hu:prog.underlying u=some .string)
  (hs:a.eval s=v)(hown:YR w base v l)(y:iY)(hx:a.eval x=.string y)(hn:l.length<=1000000000)(hm:y.size<=1000000000)(hbase:base<=w.heap.size)
  (h:∀ v' w',YR w' base v' (l++aV y)->Below base w w'->wpList prog ops Q rest (a.put o.dst v') w'):wpList prog ops Q (o::rest) a w:=by
 obtain⟨i,hi,hz,h1,h0⟩:=info_parts Byte.info;refine Lib.wpList_append_own_string w hgd s x t u ho base 5 i ht hu hi hz h1 h0 v l.length (l.flatMap (fa .u8)) hs hown.row y hx (by simp only[maxLen];omega) (by omega) hbase (fun v' w' k1 k2 _=>h v' w' ?_ ((Below.refl base w).grown k2 hbase (fun k hk=>(hown.row.lt k hk).1)))
 show w'.ownsRow base 5 1 v' (l++aV y).length ((l++aV y).flatMap (fa .u8))
 rw[kC,Xd,Vs,U7];exact k1
theorem Byte.make(w:l6)(c:Nat)(hc:c<=1000000):
  (Instr.makeSlice 121 (O J 0) (O J (c:Int))).run prog w=.ok (.slice (some ⟨w.heap.size,0,none⟩) 0 c) (w.alloc (.cells (madeCells #[.int .u8 0] c) 5)):=by
 obtain⟨i,hi,hz,hs,hb⟩:=info_parts Byte.info;have hr:=run_make (P:=prog) w 121 5 i _ underlying121 hi hz .i64 .i64 0 c (Vu _) (by omega) (by rw[hb];omega) (by omega);simp only[XX,hs,iw,Int.toNat_zero]at hr;exact hr
theorem aX(c:Nat):(madeCells #[Value.int .u8 0] c).size=c:=by simp[madeCells]
theorem Byte.own(w:l6)(c B:Nat)(hc:c<=1000000)(hB:B<=w.heap.size):YR (w.alloc (.cells (madeCells #[.int .u8 0] c) 5)) B (.slice (some ⟨w.heap.size,0,none⟩) 0 c) []:=by
 refine⟨by simp,.inr ⟨w.heap.size,c,madeCells #[.int .u8 0] c,rfl,hB,heap_alloc_new w _,vf _,?_,?_,?_⟩⟩
 ·exact vD hc (by decide)
 ·rw[iw];exact aX c
 ·simp
theorem G5{w:l6}{base:Nat}{A:iX}{c:Nat}{l:l8}(h:YR w base (.slice A l.length c) l):
  ∀dst,prog.underlying dst=some .string->(convert 121 dst (.slice A l.length c)).run prog w=.ok (.string (strOfNums l)) w:=by
 intro dst h2;obtain⟨A2,c2,he,-,hr⟩:=h.shape;have e1:A2=A:=by
  simp only[We]at he;exact he.1.symm
 rw[e1]at hr;clear e1 he;cases A with
 |none=>
  have h0:l=[]:=by
   rcases ZW l.length with h0|h0
   ·exact yj h0
   ·obtain⟨b,off,hA,_⟩:=hr.2 h0;cases hA
  subst h0;exact run_convert_bytes_nil w 121 5 underlying121 underlying5 _ c dst h2
 |some ad=>
  rcases ZW l.length with h0|h3
  ·have hl:=yj h0;subst hl;obtain⟨b,off,p⟩:=ad;rcases h.row.2 with⟨hq,-⟩|⟨g,cap,cur,hv,-⟩
   ·cases hq
   ·have h4:(⟨b,off,p⟩:Addr)=⟨g,0,none⟩:=by
     simp only[We,Gv]at hv;exact hv.1
    rw[h4];exact run_convert_bytes_arg (P:=prog) w 121 5 underlying121 underlying5 g 0 0 c [] rfl (fun i hi=>absurd hi (by omega)) dst h2
  ·obtain⟨b',off',hA,-,h1⟩:=hr.2 h3;rw[ve hA];exact run_convert_bytes_arg (P:=prog) w 121 5 underlying121 underlying5 b' off' l.length c l rfl (fun i hi=>by
    refine h1 i _ ?_;rw[zt,QL,QR,kD hi];rfl) dst h2
def U8(s:iY)(width:Int):iY:=strOfNums (List.replicate (min (max width 0) 65536-(s.size:Int)).toNat 32++aV s)
theorem ku(s:iY)(width:Int)(hs:s.size<=1000000)(w:l6):Calls prog 195 #[.string s,O J width] w (fk (.string (U8 s width)) w):=by
 have km:=Byte.make w s.size hs;have HN:=ze (Byte.own w s.size w.heap.size hs fi);have h4:=ze (show fj w (w.alloc (.cells (madeCells #[.int .u8 0] s.size) 5))from fh.alloc fi _);unfold U8;have h6:0<=min (max width 0) 65536:=by omega
 have h7:min (max width 0) 65536<=65536:=by omega
 generalize hk:(min (max width 0) 65536-(s.size:Int)).toNat=k
 go_in
 go_wp2_with fail;generalize min (max width 0) 65536=M at h6 h7 hk⊢
 go_loopw [5,16] (fun v i wr=>∃(j:Nat),j<=k/\i=O J j/\YR wr w.heap.size v (List.replicate j 32)/\fj w wr) (fun _ i _=>k-(intOf i).toNat)
 case atStart=>exact⟨0,vf _,rfl,HN.o,h4.o⟩
 case round=>
  obtain⟨j,hj,rfl,h2,hb⟩:=hrel;have HO:=ze h2;have HB:=ze hb;have hz:=hb.size;clear h2 hb;have h1:(List.replicate j (32:Int)).length<=1000000000:=by rw[Vr];omega
  by_cases h8:j<k
  ·have e0:decide ((j:Int)<M-(s.size:Int))=true:=by simp;omega
   have HX:=ze (show List.replicate j (32:Int)++[32]=List.replicate (j+1) 32 from by rw[<-List.replicate_succ']);go_wp2_with(at_builtin;refine push rfl _ _ 121 rfl underlying121 Byte.info rfl (by omega) (by omega) rfl (HO.o.alloc _) 32 ⟨_,0,none⟩ 1 rfl rfl (cell_one_new _ _ _) (by simp[Value.oneCell']) h1 (by simp;omega) ?_;intro v' w2 h0 h3);go_roundw
   case rel=>exact⟨j+1,by omega,by go_num,by rw[<-HX.o];exact h0,(HB.o.alloc hz _).trans h3⟩
   case measure=>simp[intOf];omega
  ·obtain rfl:j=k:=by omega
   have e0:decide ((j:Int)<M-(s.size:Int))=false:=by simp;omega
   go_wp2_with(at_builtin;refine G4 rfl _ _ 121 9 rfl underlying121 underlying9 rfl HO.o s rfl h1 (by omega) hz ?_;intro v' w2 h0 h3;have h5:=ze (HB.o.trans h3);obtain⟨A2,c2,rfl,-,-⟩:=h0.shape;have kt:=G5 h0;simp only[kC,Vr]at kt;clear h0 h3);go_ret;exact⟨rfl,h5.o⟩
end
end Go.Proofs.YtdeogmbfgkepeaaGreatDoor
