/- Contracts that WholeBins needs. Each tells its conditions. -/
import Derived.Deep.DeepMust
import Derived.Laws.BytesArg
import Derived.Laws.MathBits
import Derived.Lib.AppendStr
import Derived.Test.YtdeogmbfgkepeaaGreatDoorQ15
set_option linter.unusedVariables false
set_option linter.unusedSimpArgs false
set_option maxRecDepth 100000
set_option maxHeartbeats 64000000
namespace Go.Proofs.YtdeogmbfgkepeaaGreatDoor
open Go.Proofs.Tryz
open Go.Value renaming int->O
open Go.IntKind renaming i64->J,u64->U
section
open Go.RowKit HB DigP
theorem Byte.info:(prog.info? 5).map (fun i=>(i.zero,i.size,i.bytes))=some (some (.int .u8 0),1,1):=by kernel_rfl
abbrev YR(w:World)(base:Nat)(v:Value)(l:List Int):Prop:=Own w base 5 1 (fa .u8) v l
def QP(n:Nat):List Int:=(jN n).map fun c=>(c.toNat:Int)
theorem WM(k:Nat):∀ n,n<10^(k+1)->(jN n).length<=k+1:=by
 induction k with
 |zero=>intro n h;rw[qH (by simpa using h)];simp
 |succ k ih=>
  intro n h;by_cases h1:n<10
  ·rw[qH h1];simp
  ·rw[kQ h1,List.length_append];have:=ih (n/10) (by rw[Nat.pow_succ]at h;omega);simp only[List.length_cons,List.length_nil];omega
theorem aF(n:Nat)(h:n<18446744073709551616):(QP n).length<=20:=by
 unfold QP;rw[List.length_map];exact WM 19 n (by omega)
theorem cu{n:Nat}(h:n<10):QP n=[((48+n:Nat):Int)]:=by
 unfold QP;rw[qH h,List.map_cons,jJ h];rfl
theorem cw{n:Nat}(h:¬ n<10):QP n=QP (n/10)++[((48+n%10:Nat):Int)]:=by
 unfold QP;rw[kQ h,List.map_append,List.map_cons,jJ (by omega)];rfl
theorem aG(n:Nat):strOfNums (QP n)=⟨(jN n).toArray⟩:=by
 unfold strOfNums QP;rw[List.map_map]
 congr 2
 conv=>rhs;rw[<-List.map_id (jN n)]
 apply List.map_congr_left;intro c hc;simp
def jh(n:Nat):ByteArray:=⟨(jN n).toArray⟩
theorem kj(N:Nat)(hN:N<18446744073709551616)(w:World):Calls prog 65 #[O U N] w (fk (.string (jh N)) w):=by
 have hL:=aF N hN;go_enter func65,ntmps65;go_wp2_with fail
 go_loopw [0,3,4] (fun n v ok wr=>∃(m:Nat)(l:List Int)(b:Bool),m<=N/\n=O U m/\ok=.bool b/\YR wr w.heap.size v l/\fj w wr/\(if b then QP N=QP m++l else QP N=l)/\l.length<=20) (fun n _ ok _=>match ok with|.bool true=>(intOf n).toNat+1|_=>0)
 case atStart=>exact⟨N,[],true,fi,rfl,rfl,Own.nil _ _ _ _ _,fh,by simp,by simp⟩
 case round=>
  obtain⟨m,l,b,hm,rfl,rfl,hown,hb,hd,hl⟩:=hrel;have HO:=ze hown;have HB:=ze hb;clear hown hb;obtain⟨A,c,rfl,-,hr⟩:=HO.o.shape;have HR:=ze hr;clear hr;cases b with
  |false=>
   rw[if_neg (by decide)]at hd;have ks:∀ dst,prog.underlying dst=some .string->(convert 121 dst (.slice A l.length c)).run prog wr=.ok (.string (jh N)) wr:=by
    intro dst hds;cases A with
    |none=>
     have h0:l=[]:=by
      rcases Nat.eq_zero_or_pos l.length with h0|h0
      ·exact List.eq_nil_of_length_eq_zero h0
      ·obtain⟨b,off,hA,_⟩:=HR.o.2 h0;cases hA
     have h2:=qh N;have h3:(QP N).length=(jN N).length:=by unfold QP;simp
     rw[hd,h0]at h3;simp only[List.length_nil]at h3;omega
    |some ad=>
     obtain⟨b,off,p⟩:=ad;have hpos:0<l.length:=by rw[<-hd];unfold QP;rw[List.length_map];exact qh N
     obtain⟨b',off',hA,-,hcell⟩:=HR.o.2 hpos;injection hA with hA;rw[hA];have hx:=run_convert_bytes_arg (P:=prog) wr 121 5 underlying121 underlying5 b' off' l.length c l rfl (fun i hi=>by
      refine hcell i _ ?_;rw[zt,List.getElem?_map,List.getD_eq_getElem?_getD,List.getElem?_eq_getElem hi];rfl) dst hds
     rw[hx,<-hd,aG];rfl
   go_wp2_with fail;go_ret;exact⟨rfl,HB.o⟩
  |true=>
   rw[if_pos rfl]at hd;have HR2:=ze (HR.o.below (((Below.refl wr.heap.size wr).alloc fi (.cells #[.int .u8 (48+(m:Int)%10)] 5))));have HN:=ze (Own.block (base:=w.heap.size) (f:=fa .u8) (sz:=1) wr 5 #[.int .u8 (48+(m:Int)%10)] [48+(m:Int)%10] HB.o.size rfl (fun _=>rfl) (by simp));have hz:=HB.o.size;go_wp2_with(at_builtin;refine qe rfl _ _ 121 rfl underlying121 Byte.info rfl (by omega) (by omega) rfl HN.o l _ A l.length c rfl rfl HR2.o (by rintro u hu;simp only[zt,List.mem_map]at hu;obtain⟨x,-,rfl⟩:=hu;rfl) (by simp) (by omega) (by simp;omega) ?_;intro v' w2 hown2 hb2);by_cases h10:m<10
   ·have e0:(m:Int)/10=((0:Nat):Int):=by omega
    have e1:decide ((m:Int)/10>0)=false:=by simp;omega
    rw[cu h10]at hd;have hd':QP N=[48+(m:Int)%10]++l:=by rw[hd];congr 2;omega
    have hl':=congrArg List.length hd';refine⟨⟨m/10,_,false,by omega,by norm_cast,by simp;omega,hown2,HB.o.trans (((Below.refl w.heap.size wr).alloc hz _).trans hb2),?_,?_⟩,?_⟩
    ·rw[if_neg (by decide)];exact hd'
    ·rw[<-hl'];exact hL
    ·rw[show decide (0<(m:Int)/10)=false from by simp;omega];simp[intOf]
   ·rw[cw h10]at hd;have hd':QP N=QP (m/10)++([48+(m:Int)%10]++l):=by rw[hd,List.append_assoc];congr 2
    have hl':=congrArg List.length hd';rw[List.length_append]at hl';refine⟨⟨m/10,_,true,by omega,by norm_cast,by simp;omega,hown2,HB.o.trans (((Below.refl w.heap.size wr).alloc hz _).trans hb2),?_,?_⟩,?_⟩
    ·rw[if_pos rfl];exact hd'
    ·omega
    ·rw[show decide (0<(m:Int)/10)=true from by simp;omega];simp[intOf];omega
def yQ(n:Int):Prop:=-9223372036854775808<=n/\n<=9223372036854775807
theorem cC(n:Int)(h0: -9223372036854775808<=n)(hn:n<0):bits .xor .i64 (-1) n=-n-1:=by
 have e:BitVec.ofInt 64 (-1)^^^BitVec.ofInt 64 n= ~~~ (BitVec.ofInt 64 n):=by
  rw[show BitVec.ofInt 64 (-1)=BitVec.allOnes 64 from by decide,BitVec.xor_comm,BitVec.xor_allOnes]
 show IntKind.i64.wrap ((BitVec.ofInt 64 (-1)^^^BitVec.ofInt 64 n).toNat:Nat)=-n-1
 have h2:(BitVec.ofInt 64 n).toNat=(n+18446744073709551616).toNat:=by
  rw[BitVec.toNat_ofInt];omega
 rw[e,BitVec.toNat_not,h2,IntKind.wrap_i64];omega
theorem xH(n:Int)(h:yQ n)(w:World):Calls prog 60 #[O J n] w (fm (O U (n.natAbs:Int)) w):=by
 obtain⟨h0,h1⟩:=h;by_cases hn:n<0
 ·have e0:decide (n<0)=true:=by simp[hn]
  go_enter func60,ntmps60;go_wp2_with fail;go_ret;refine⟨?_,rfl⟩
  show Ending.returned (O U (IntKind.u64.wrap (IntKind.u64.wrap (bits BinOp.xor IntKind.i64 (-1) n)+1)))=_
  rw[cC n h0 hn];have:IntKind.u64.wrap (IntKind.u64.wrap (-n-1)+1)=(n.natAbs:Int):=by simp only[IntKind.wrap_u64];omega
  rw[this]
 ·have e0:decide (n<0)=false:=by simp;omega
  go_enter func60,ntmps60;go_wp2_with fail;go_ret;refine⟨?_,rfl⟩
  show Ending.returned (O U n)=_
  rw[show(n.natAbs:Int)=n from by omega]
def cd(s:ByteArray):ByteArray:=⟨#[45]⟩++s
def zC(n:Int):ByteArray:=if n<0 then cd (jh n.natAbs)else jh n.natAbs
theorem kR(n:Nat)(h:n<18446744073709551616):(jh n).size<=20:=by
 have:=WM 19 n (by omega);simpa[jh,ByteArray.size]using this
theorem K9(n:Int)(h:yQ n)(w:World):Calls prog 45 #[O J n] w (fk (.string (zC n)) w):=by
 have HH:=ze h;obtain⟨h0,h1⟩:=h;by_cases hn:n<0
 ·have e0:decide (n<0)=true:=by simp[hn]
  have hz:¬ 9223372036854775807<1+(jh n.natAbs).size:=by have:=kR n.natAbs (by omega);omega
  go_enter func45,ntmps45;go_wp2_with(first
   |(go_at_call 60;(with_reducible refine(xH n HH.o _).mono ?_);rintro r w1 ⟨rfl,rfl⟩)
   |(go_at_call 65;(with_reducible refine(kj n.natAbs (by omega) _).mono ?_);rintro r w2 ⟨rfl,hb⟩))
  go_ret;refine⟨?_,hb⟩;unfold zC;rw[if_pos hn]
  rfl
 ·have e0:decide (n<0)=false:=by simp;omega
  obtain⟨k,rfl⟩:∃ k:Nat,n=k:=⟨n.toNat,by omega⟩;go_enter func45,ntmps45;go_wp2_with(go_at_call 65;(refine(kj k (by omega) _).mono ?_);rintro r w2 ⟨rfl,hb⟩);go_ret;refine⟨?_,hb⟩;unfold zC;rw[if_neg (by omega)]
  rfl
theorem ja(n:Int)(h:yQ n)(w:World):Calls prog 21 #[O J n] w (fk (.string (zC n)) w):=by
 have HH:=ze h;obtain⟨h0,h1⟩:=h;go_enter func21,ntmps21;go_wp2_with(go_at_call 45;(refine(K9 n HH.o _).mono ?_);rintro r w2 ⟨rfl,hb⟩);go_ret;exact⟨rfl,hb⟩
theorem Y8{k k':IntKind}{a b c d:Int}(h:a=c)(h':b=d):Ending.returned (.tuple #[.int k a,.int k' b])=.returned (.tuple #[.int k c,.int k' d]):=by rw[h,h']
theorem yC(a b:Nat)(ha:a<2147483648)(hb:b<2147483648)(w:World):Calls prog 59 #[O U a,O U b] w (fm (.tuple #[O U 0,O U (a*b:Nat)]) w):=by
 have ha2:(a:Int)/4294967296=0:=by omega
 have hb2:(b:Int)/4294967296=0:=by omega
 have ha3:bits .and .u64 (a:Int) 4294967295=a:=by rw[and_low32 _ (by omega) (by omega)];omega
 have hb3:bits .and .u64 (b:Int) 4294967295=b:=by rw[and_low32 _ (by omega) (by omega)];omega
 have hp:a*b<2147483648*2147483648:=Nat.mul_lt_mul'' ha hb;go_enter func59,ntmps59;go_wp2_with fail;go_ret2;refine⟨Y8 ?_ ?_,rfl⟩
 ·rw[<-Int.natCast_mul];generalize a*b=p at hp;rw[and_low32 _ (by omega) (by omega),IntKind.wrap_u64,IntKind.wrap_u64];omega
 ·rfl
theorem JV(op:BinOp)(x y:Nat)(hx:x<9223372036854775808)(hy:y<9223372036854775808):bits .xor .i64 (x:Int) (y:Int)=((x^^^y:Nat):Int)/\bits .and .i64 (x:Int) (y:Int)=((x&&&y:Nat):Int):=by
 have h1:x^^^y<2^63:=Nat.xor_lt_two_pow (by omega) (by omega);have h2:x&&&y<2^63:=Nat.and_lt_two_pow x (by omega);constructor
 ·show IntKind.i64.wrap ((BitVec.ofInt 64 (x:Int)^^^BitVec.ofInt 64 (y:Int)).toNat:Nat)=_
  rw[BitVec.ofInt_natCast,BitVec.ofInt_natCast,BitVec.toNat_xor,BitVec.toNat_ofNat,BitVec.toNat_ofNat,Nat.mod_eq_of_lt (by omega),Nat.mod_eq_of_lt (by omega),IntKind.wrap_i64];omega
 ·show IntKind.i64.wrap ((BitVec.ofInt 64 (x:Int)&&&BitVec.ofInt 64 (y:Int)).toNat:Nat)=_
  rw[BitVec.ofInt_natCast,BitVec.ofInt_natCast,BitVec.toNat_and,BitVec.toNat_ofNat,BitVec.toNat_ofNat,Nat.mod_eq_of_lt (by omega),Nat.mod_eq_of_lt (by omega),IntKind.wrap_i64];omega
theorem VJ(a b:Nat)(ha:a<4611686018427387904)(hb:b<4611686018427387904):0<=bits .and .i64 (bits .xor .i64 (a:Int) ((a:Int)+(b:Int))) (bits .xor .i64 (b:Int) ((a:Int)+(b:Int))):=by
 have e:(a:Int)+(b:Int)=((a+b:Nat):Int):=by omega
 have h1:a^^^(a+b)<2^63:=Nat.xor_lt_two_pow (by omega) (by omega);have h2:b^^^(a+b)<2^63:=Nat.xor_lt_two_pow (by omega) (by omega);rw[e,(JV .and a (a+b) (by omega) (by omega)).1,(JV .and b (a+b) (by omega) (by omega)).1,(JV .and _ _ (by omega) (by omega)).2];omega
theorem vV(a:Int)(ha:0<=a)(ha1:a<9223372036854775808)(w:World):Calls prog 61 #[O U a,.bool false] w (fm (.tuple #[O J a,O J 0]) w):=by
 have e0:decide (9223372036854775808<=a)=false:=by simp;omega
 have e1:IntKind.i64.wrap a=a:=by rw[IntKind.wrap_i64];omega
 go_enter func61,ntmps61;go_wp2_with fail;go_ret2;exact⟨rfl,rfl⟩
theorem xI(a b:Nat)(ha:a<4611686018427387904)(hb:b<4611686018427387904)(w:World):Calls prog 35 #[O J a,O J b] w (fm (.tuple #[O J (a+b:Nat),O J 0]) w):=by
 have h:=VJ a b ha hb;go_enter func35,ntmps35;go_wp2_with fail
 all_goals go_ret2
 all_goals first
  |(exfalso;omega)
  |exact⟨rfl,rfl⟩
theorem Ki(a:Nat)(h:a<9223372036854775808)(w:World):Calls prog 60 #[O J a] w (fm (O U a) w):=
 (xH a ⟨by omega,by omega⟩ w).mono fun _ _ h=>h
theorem J5(a b:Nat)(ha:a<2147483648)(hb:b<2147483648)(w:World):Calls prog 34 #[O J a,O J b] w (fm (.tuple #[O J (a*b:Nat),O J 0]) w):=by
 have hp:a*b<2147483648*2147483648:=Nat.mul_lt_mul'' ha hb;have eA:decide ((a:Int)<0)=false:=by simp
 have eB:decide ((b:Int)<0)=false:=by simp
 have HA:=ze (Ki a (by omega) w);have HB:=ze (Ki b (by omega) w);have HM:=ze (yC a b ha hb w);have HS:=ze (vV ((a*b:Nat):Int) (by omega) (by omega) w);go_enter func34,ntmps34;go_wp2_with(first
  |(go_at_call 60;(with_reducible refine HA.o.mono ?_);rintro r w1 ⟨rfl,rfl⟩)
  |(go_at_call 60;(with_reducible refine HB.o.mono ?_);rintro r w1 ⟨rfl,rfl⟩)
  |(go_at_call 59;(refine HM.o.mono ?_);rintro r w1 ⟨rfl,rfl⟩)
  |(go_at_call 61;(refine HS.o.mono ?_);rintro r w1 ⟨rfl,rfl⟩))
 go_ret2;exact⟨rfl,rfl⟩
theorem Ya(N i:Nat)(h:i<(jh N).size):(jN N)[i]?=some ((jh N)[i]'h):=by
 have h':i<(jN N).length:=by simpa[jh,ByteArray.size]using h
 rw[List.getElem?_eq_getElem h']
 rfl
theorem JY(N i:Nat)(h:i<(jh N).size):48<=((jh N)[i]'h).toNat/\((jh N)[i]'h).toNat<=57/\val ((jN N).take (i+1))=val ((jN N).take i)*10+(((jh N)[i]'h).toNat-48):=by
 have e:=Ya N i h;have h1:=JR N _ (List.mem_of_getElem? e);exact⟨h1.1,h1.2,Zp _ _ _ e⟩
theorem Kl(N:Nat)(h:0<(jh N).size)(h1:1<(jh N).size):((jh N)[0]'h).toNat≠48:=by
 have e:=Ya N 0 h;obtain⟨c,t,h2,h3⟩:=WL N (by simpa[jh,ByteArray.size]using h1);rw[h2]at e;simp only[List.getElem?_cons_zero,Option.some.injEq]at e;rw[<-e];intro h4;exact h3 (UInt8.toNat_inj.1 h4)
theorem yD(N:Nat)(hN:N<2147483648)(w:World):Calls prog 16 #[.string (jh N)] w (fm (.tuple #[O J N,O J 0]) w):=by
 have hz:=kR N (by omega);have hpos:0<(jh N).size:=by have:=qh N;simpa[jh,ByteArray.size]using this
 have hall:=Y6 N;have hlen:(jN N).length=(jh N).size:=by simp[jh,ByteArray.size]
 have HAT:=ze (JY N);have HHD:=ze (Kl N hpos);have h0:=JY N 0 hpos;have f45:(((jh N)[0].toNat:Int)==45)=false:=by simp;omega
 have fE:(jh N).toList.isEmpty=false:=by
  rw[ByteArray.toList_eq];have:=qh N
  show(jN N).toArray.toList.isEmpty=false
  cases h:jN N with
  |nil=>rw[h]at this;simp at this
  |cons a b=>rfl
 have HM:=ze (fun(a:Nat)(ha:a<2147483648)(V:World)=>(show Calls prog 34 #[O J a,O J 10] V fun e w'=>e=.returned (.tuple #[O J (a*10:Nat),O J 0])/\w'=V from J5 a 10 ha (by omega) V));have key:(((jh N)[0].toNat:Int)==48)=false\/((((jh N)[0].toNat:Int)==48)=true/\(jh N).size=1):=by
  by_cases h1:1<(jh N).size
  ·left;have:=HHD.o h1;simp;omega
  ·by_cases h2:(((jh N)[0].toNat:Int)==48)=false
   ·exact .inl h2
   ·right;exact⟨by simpa using h2,by omega⟩
 clear h0;rcases key with k1|⟨k1,k2⟩
 all_goals
  go_enter func16,ntmps16;go_wp2_with fail
  go_loopw [5,6,37] (fun n e i wr=>∃(j:Nat),j<=(jh N).size/\i=O J j/\n=O J (val ((jN N).take j))/\e=O J 0/\wr=w) (fun _ _ i _=>(jh N).size-(intOf i).toNat)
  case atStart=>exact⟨0,Nat.zero_le _,rfl,rfl,rfl,rfl⟩
  case round=>
   obtain⟨j,hj,rfl,rfl,rfl,rfl⟩:=hrel;by_cases hlt:j<(jh N).size
   ·obtain⟨a1,a2,a3⟩:=HAT.o j hlt;have hle:=QZ (jN N) (j+1);rw[hall,a3]at hle;have g1:decide (((jh N)[j].toNat:Int)<48)=false:=by simp;omega
    have g2:decide (57<((jh N)[j].toNat:Int))=false:=by simp;omega
    have HA:=ze (fun(V:World)=>xI (val ((jN N).take j)*10) ((jh N)[j].toNat-48) (by omega) (by omega) V);rw[<-a3,show(((jh N)[j].toNat-48:Nat):Int)=((jh N)[j].toNat:Int)-48 by omega]at HA;go_wp2_with(first
     |(go_at_call 34;(refine(HM.o _ (by omega) _).mono ?_);rintro r w1 ⟨rfl,rfl⟩)
     |(go_at_call 35;(refine(HA.o _).mono ?_);rintro r w1 ⟨rfl,rfl⟩))
    refine⟨⟨j+1,by omega,by go_num,by rw[a3];norm_cast,by trivial⟩,?_⟩;simp[intOf];omega
   ·obtain rfl:j=(jh N).size:=by omega
    have hfin:val ((jN N).take (jh N).size)=N:=by rw[<-hlen,List.take_length,hall]
    generalize val ((jN N).take (jh N).size)=v0 at hfin⊢;subst hfin;go_wp2_with fail;go_ret2;exact⟨rfl,rfl⟩
def aV(s:ByteArray):List Int:=s.data.toList.map fun b=>(b.toNat:Int)
theorem U7(s:ByteArray):(aV s).flatMap (fa .u8)=Lib.strCells s:=by
 rw[zt];simp[aV,Lib.strCells]
theorem Xd(s:ByteArray):(aV s).length=s.size:=by
 show(List.map _ _).length=s.data.size
 rw[List.length_map,Array.length_toList]
theorem aW(s:ByteArray):strOfNums (aV s)=s:=by
 unfold strOfNums aV;rw[List.map_map];have:(List.map ((fun n:Int=>UInt8.ofNat n.toNat)∘fun b:UInt8=>(b.toNat:Int)) s.data.toList)=s.data.toList:=by
  conv=>rhs;rw[<-List.map_id s.data.toList]
  apply List.map_congr_left;intro c hc;simp
 rw[this]
theorem G4{base:Nat}{w:World}{v:Value}{l:List Int}{ops:Array Oper}{rest:List Oper}{o:Oper}{a:Act}{Q:Exit->Act->World->Prop}(hgd:o.guard=none)(s x:Operand)(t u:TypeId)
  (ho:o.op=.call {callee:=.builtin .append,args:= #[s,x],argTypes:= #[t,u]})(ht:prog.underlying t=some (.slice 5))(hu:prog.underlying u=some .string)
  (hs:a.eval s=v)(hown:YR w base v l)(y:ByteArray)(hx:a.eval x=.string y)(hn:l.length<=1000000000)(hm:y.size<=1000000000)(hbase:base<=w.heap.size)
  (h:∀ v' w',YR w' base v' (l++aV y)->Below base w w'->wpList prog ops Q rest (a.put o.dst v') w'):wpList prog ops Q (o::rest) a w:=by
 obtain⟨i,hi,hz,hzz,hbb⟩:=info_parts Byte.info;refine Lib.wpList_append_own_string w hgd s x t u ho base 5 i ht hu hi hz hzz hbb v l.length (l.flatMap (fa .u8)) hs hown.row y hx (by simp only[maxLen];omega) (by omega) hbase (fun v' w' k1 k2 _=>h v' w' ?_ ((Below.refl base w).grown k2 hbase (fun k hk=>(hown.row.lt k hk).1)))
 show w'.ownsRow base 5 1 v' (l++aV y).length ((l++aV y).flatMap (fa .u8))
 rw[List.length_append,Xd,List.flatMap_append,U7];exact k1
theorem Byte.make(w:World)(c:Nat)(hc:c<=1000000):
  (Instr.makeSlice 121 (O J 0) (O J (c:Int))).run prog w=.ok (.slice (some ⟨w.heap.size,0,none⟩) 0 c) (w.alloc (.cells (madeCells #[.int .u8 0] c) 5)):=by
 obtain⟨i,hi,hz,hs,hb⟩:=info_parts Byte.info;have hr:=run_make (P:=prog) w 121 5 i _ underlying121 hi hz .i64 .i64 0 c (Int.le_refl _) (by omega) (by rw[hb];omega) (by omega);simp only[Int.toNat_natCast,hs,Nat.mul_one,Int.toNat_zero]at hr;exact hr
theorem aX(c:Nat):(madeCells #[Value.int .u8 0] c).size=c:=by simp[madeCells]
theorem Byte.own(w:World)(c B:Nat)(hc:c<=1000000)(hB:B<=w.heap.size):YR (w.alloc (.cells (madeCells #[.int .u8 0] c) 5)) B (.slice (some ⟨w.heap.size,0,none⟩) 0 c) []:=by
 refine⟨by simp,.inr ⟨w.heap.size,c,madeCells #[.int .u8 0] c,rfl,hB,heap_alloc_new w _,Nat.zero_le _,?_,?_,?_⟩⟩
 ·exact Nat.le_trans hc (by decide)
 ·rw[Nat.mul_one];exact aX c
 ·simp
theorem G5{w:World}{base:Nat}{A:Option Addr}{c:Nat}{l:List Int}(h:YR w base (.slice A l.length c) l):
  ∀dst,prog.underlying dst=some .string->(convert 121 dst (.slice A l.length c)).run prog w=.ok (.string (strOfNums l)) w:=by
 intro dst hds;obtain⟨A2,c2,he,-,hr⟩:=h.shape;have e1:A2=A:=by
  simp only[Value.slice.injEq]at he;exact he.1.symm
 rw[e1]at hr;clear e1 he;cases A with
 |none=>
  have h0:l=[]:=by
   rcases Nat.eq_zero_or_pos l.length with h0|h0
   ·exact List.eq_nil_of_length_eq_zero h0
   ·obtain⟨b,off,hA,_⟩:=hr.2 h0;cases hA
  subst h0;exact run_convert_bytes_nil w 121 5 underlying121 underlying5 _ c dst hds
 |some ad=>
  rcases Nat.eq_zero_or_pos l.length with h0|hpos
  ·have hl:=List.eq_nil_of_length_eq_zero h0;subst hl;obtain⟨b,off,p⟩:=ad;rcases h.row.2 with⟨hq,-⟩|⟨g,cap,cur,hv,-⟩
   ·cases hq
   ·have hv1:(⟨b,off,p⟩:Addr)=⟨g,0,none⟩:=by
     simp only[Value.slice.injEq,Option.some.injEq]at hv;exact hv.1
    rw[hv1];exact run_convert_bytes_arg (P:=prog) w 121 5 underlying121 underlying5 g 0 0 c [] rfl (fun i hi=>absurd hi (by omega)) dst hds
  ·obtain⟨b',off',hA,-,hcell⟩:=hr.2 hpos;rw[Option.some.inj hA];exact run_convert_bytes_arg (P:=prog) w 121 5 underlying121 underlying5 b' off' l.length c l rfl (fun i hi=>by
    refine hcell i _ ?_;rw[zt,List.getElem?_map,List.getD_eq_getElem?_getD,List.getElem?_eq_getElem hi];rfl) dst hds
def U8(s:ByteArray)(width:Int):ByteArray:=strOfNums (List.replicate (min (max width 0) 65536-(s.size:Int)).toNat 32++aV s)
theorem ku(s:ByteArray)(width:Int)(hs:s.size<=1000000)(w:World):Calls prog 195 #[.string s,O J width] w (fk (.string (U8 s width)) w):=by
 have km:=Byte.make w s.size hs;have HN:=ze (Byte.own w s.size w.heap.size hs fi);have HB0:=ze (show fj w (w.alloc (.cells (madeCells #[.int .u8 0] s.size) 5))from fh.alloc fi _);unfold U8;have hM0:0<=min (max width 0) 65536:=by omega
 have hM1:min (max width 0) 65536<=65536:=by omega
 generalize hk:(min (max width 0) 65536-(s.size:Int)).toNat=k;go_enter func195,ntmps195;go_wp2_with fail;generalize min (max width 0) 65536=M at hM0 hM1 hk⊢
 go_loopw [5,16] (fun v i wr=>∃(j:Nat),j<=k/\i=O J j/\YR wr w.heap.size v (List.replicate j 32)/\fj w wr) (fun _ i _=>k-(intOf i).toNat)
 case atStart=>exact⟨0,Nat.zero_le _,rfl,HN.o,HB0.o⟩
 case round=>
  obtain⟨j,hj,rfl,hown,hb⟩:=hrel;have HO:=ze hown;have HB:=ze hb;have hz:=hb.size;clear hown hb;have hlen:(List.replicate j (32:Int)).length<=1000000000:=by rw[List.length_replicate];omega
  by_cases hlt:j<k
  ·have e0:decide ((j:Int)<M-(s.size:Int))=true:=by simp;omega
   have HX:=ze (show List.replicate j (32:Int)++[32]=List.replicate (j+1) 32 from by rw[<-List.replicate_succ']);go_wp2_with(at_builtin;refine push rfl _ _ 121 rfl underlying121 Byte.info rfl (by omega) (by omega) rfl (HO.o.alloc _) 32 ⟨_,0,none⟩ 1 rfl rfl (cell_one_new _ _ _) (by simp[Value.oneCell']) hlen (by simp;omega) ?_;intro v' w2 hown2 hb2);go_roundw
   case rel=>exact⟨j+1,by omega,by go_num,by rw[<-HX.o];exact hown2,(HB.o.alloc hz _).trans hb2⟩
   case measure=>simp[intOf];omega
  ·obtain rfl:j=k:=by omega
   have e0:decide ((j:Int)<M-(s.size:Int))=false:=by simp;omega
   go_wp2_with(at_builtin;refine G4 rfl _ _ 121 9 rfl underlying121 underlying9 rfl HO.o s rfl hlen (by omega) hz ?_;intro v' w2 hown2 hb2;have HB2:=ze (HB.o.trans hb2);obtain⟨A2,c2,rfl,-,-⟩:=hown2.shape;have kt:=G5 hown2;simp only[List.length_append,List.length_replicate]at kt;clear hown2 hb2);go_ret;exact⟨rfl,HB2.o⟩
end
end Go.Proofs.YtdeogmbfgkepeaaGreatDoor
