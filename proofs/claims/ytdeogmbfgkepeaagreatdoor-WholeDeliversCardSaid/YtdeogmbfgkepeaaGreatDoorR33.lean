/- Contracts for WholeDelivers. -/
import Derived.Shelf.Spec.TrailingZeros
import Derived.Test.YtdeogmbfgkepeaaGreatDoorR28
set_option linter.unusedVariables false
set_option linter.unusedSimpArgs false
set_option maxRecDepth 100000
set_option maxHeartbeats 64000000
namespace Go.Proofs.YtdeogmbfgkepeaaGreatDoor
open Go.Proofs.Tryz
section
section
open Go.Shelf Go.RowKit
def Tryz.lays729_ren:Go.Shelf.Ren:=⟨fun|29=>293|n=>n,fun|22=>129|3=>3|4=>4|25=>137|54=>425|0=>0|5=>5|n=>n,fun|1=>5|n=>n⟩
theorem Tryz.lays729:Go.Proofs.Lays7.n29 prog Tryz.lays729_ren:={
 mixed:=by kernel_rfl
 f29:=func293.trans (congrArg some (by kernel_rfl))
 t0:=underlying0
 a0:=isAgg0
 z0:=sizeOf0
 v0:=zeroValue0
 i0:=by kernel_rfl
 t3:=underlying3
 a3:=isAgg3
 z3:=sizeOf3
 v3:=zeroValue3
 i3:=by kernel_rfl
 t4:=underlying4
 a4:=isAgg4
 z4:=sizeOf4
 v4:=zeroValue4
 i4:=by kernel_rfl
 t5:=underlying5
 a5:=isAgg5
 z5:=sizeOf5
 v5:=zeroValue5
 i5:=by kernel_rfl
 t22:=underlying129
 a22:=isAgg129
 z22:=sizeOf129
 v22:=zeroValue129
 i22:=by kernel_rfl
 t25:=underlying137
 a25:=isAgg137
 z25:=sizeOf137
 v25:=zeroValue137
 i25:=by kernel_rfl
 t54:=underlying425
 a54:=isAgg425
 z54:=sizeOf425
 g1:=by kernel_rfl}
end
open Go.RowKit HB
def Tab(w:l6):Prop:=TabAt 5 Lib.deBruijn64tab w
theorem Tab.below{w w':l6}{D:Nat}(h:Tab w)(hb:Below D w w')(hD:5<D):Tab w':=fun j hj=>(hb.cell (p:=⟨_,j,none⟩) hD).trans (h j hj)
theorem Tab.tz{w:l6}(h:Tab w):Tz w:=fun k hk=>by
 have h2:∀ k:Fin 64,Lib.deBruijn64tab.getD k.val 0<=255:=by decide+kernel
 exact⟨_,by omega,by have:=h2 ⟨k,hk⟩;simp only at this;omega,h k (by simpa[Lib.deBruijn64tab]using hk)⟩
theorem cP(x:Nat)(hx:x<18446744073709551616)(w:l6)(h:Tab w):Calls prog 293 #[.int .u64 (x:Int)] w (fm (.int .i64 (Lib.ctz 64 x)) w):=
 Any7.bits_TrailingZeros64 Tryz.lays729 x hx w (fun _=>h)
theorem bn(c n m q:Nat)(h:2^c*(2*m+1)=2^n*q):n<=c:=by
 rcases YF c n with h1|h1
 ·exfalso;obtain⟨d,rfl⟩:∃ d,n=c+(d+1):=⟨n-c-1,by omega⟩;rw[Nat.pow_add,Nat.mul_assoc]at h;have h2:=Nat.eq_of_mul_eq_mul_left (Nat.two_pow_pos c) h;rw[Nat.pow_succ,Nat.mul_comm (2^d) 2,Nat.mul_assoc]at h2;omega
 ·exact h1
theorem Qu(x n:Nat)(h0:x≠0)(hx:x<2^64)(h:x%2^n=0):n<=Lib.ctz 64 x/\Lib.ctz 64 x<64:=by
 obtain⟨m,hm,h1⟩:=Lib.ctzFrom_spec 64 x (by omega) hx;unfold Lib.ctz;rw[if_neg h0];refine⟨?_,h1⟩;generalize Lib.ctzFrom 64 x=c at*;have hq:=Nat.div_add_mod x (2^n);rw[h,Vt]at hq;exact bn c n m (x/2^n) (by rw[<-hm,hq])
theorem xm(op:BinOp)(a b:Int):0<=bits op .u64 a b/\bits op .u64 a b<18446744073709551616:=by
 unfold bits;have:∀ z:Int,0<=IntKind.u64.wrap z/\IntKind.u64.wrap z<18446744073709551616:=fun z=>by
  simp only[IntKind.wrap,IntKind.signed,IntKind.bits];constructor<;>simp<;>omega
 exact this _
theorem bp(n:Nat)(h:n<64):az (n:Int)=((2^n-1:Nat):Int):=by
 have:∀ k:Fin 64,az (k.val:Int)=((2^k.val-1:Nat):Int):=by decide+kernel
 exact this ⟨n,h⟩
theorem KR(a:Int)(n:Nat)(h:n<64):(bits .andNot .u64 a (bits .and .u64 a (az (n:Int)))).toNat%2^n=0:=by
 rw[bp n h];have w64:∀ x:BitVec 64,IntKind.u64.wrap (x.toNat:Int)=(x.toNat:Int):=fun x=>by
  have:=x.isLt;simp only[IntKind.wrap,IntKind.signed,IntKind.bits];simp;omega
 have e1:bits .and .u64 a ((2^n-1:Nat):Int)=((BitVec.ofInt 64 a&&&BitVec.ofInt 64 ((2^n-1:Nat):Int)).toNat:Int):=w64 _;rw[e1];have e2:bits .andNot .u64 a ((BitVec.ofInt 64 a&&&BitVec.ofInt 64 ((2^n-1:Nat):Int)).toNat:Int)=((BitVec.ofInt 64 a&&& ~~~(BitVec.ofInt 64 ((BitVec.ofInt 64 a&&&BitVec.ofInt 64 ((2^n-1:Nat):Int)).toNat:Int))).toNat:Int):=w64 _;rw[e2];generalize BitVec.ofInt 64 a=A;have e3:BitVec.ofInt 64 ((2^n-1:Nat):Int)=BitVec.ofNat 64 (2^n-1):=by rw[ah]
 rw[e3,ah];have e4:BitVec.ofNat 64 (A&&&BitVec.ofNat 64 (2^n-1)).toNat=A&&&BitVec.ofNat 64 (2^n-1):=by rw[BitVec.ofNat_toNat,BitVec.setWidth_eq]
 rw[e4]
 show((A&&& ~~~(A&&&BitVec.ofNat 64 (2^n-1))).toNat:Int).toNat%2^n=0
 rw[XX];apply Nat.eq_of_testBit_eq;intro i;rw[Nat.testBit_mod_two_pow,Nat.zero_testBit];by_cases hi:i<n
 ·simp only[hi,decide_true,Bool.true_and];have hm:(BitVec.ofNat 64 (2^n-1)).getLsbD i=true:=by
   rw[BitVec.getLsbD_ofNat];simp[Nat.testBit_two_pow_sub_one,hi];omega
  show(A&&& ~~~(A&&&BitVec.ofNat 64 (2^n-1))).getLsbD i=false
  have h0:i<64:=by omega
  simp only[BitVec.getLsbD_and,BitVec.getLsbD_not,hm,Bool.and_true,h0,decide_true,Bool.true_and];cases A.getLsbD i<;>rfl
 ·simp[hi]
def NextB(n:Int)(e:Ending):Prop:=(∃m:Int,e=.returned (.tuple #[.int .i64 m,.bool true])/\n<=m/\0<=m/\m<=127)\/e=.returned (.tuple #[.int .i64 0,.bool false])
theorem bq(a b n:Int)(h0:0<=n):(qN a n≠0->n<=Lib.ctz 64 (qN a n).toNat/\Lib.ctz 64 (qN a n).toNat<64)/\(qO b n≠0->n<=64+Lib.ctz 64 (qO b n).toNat/\Lib.ctz 64 (qO b n).toNat<64):=by
 obtain⟨N,rfl⟩:=QM h0;have ra:=xm .andNot a (jY a (N:Int));have rb:=xm .andNot b (jZ b (N:Int));constructor
 ·intro h4;have hx:(qN a (N:Int)).toNat≠0:=by unfold qN at h4⊢;omega
  have h3:(qN a (N:Int)).toNat<2^64:=by unfold qN;omega
  by_cases h1:N=0
  ·subst h1;have:=Qu _ 0 hx h3 (by rw[Nat.pow_zero,Nat.mod_one]);exact⟨by omega,this.2⟩
  ·by_cases h2:N<64
   ·have hb:jY a (N:Int)=bits .and .u64 a (az (N:Int)):=by unfold jY;rw[if_neg (by omega),if_pos (by omega)]
    have hz:(qN a (N:Int)).toNat%2^N=0:=by unfold qN;rw[hb];exact KR a N h2
    have:=Qu _ N hx h3 hz;exact⟨by omega,this.2⟩
   ·have hb:jY a (N:Int)=a:=by unfold jY;rw[if_neg (by omega),if_neg (by omega)]
    exact absurd (by unfold qN;rw[hb];exact sub_self a) h4
 ·intro h4;have hx:(qO b (N:Int)).toNat≠0:=by unfold qO at h4⊢;omega
  have h3:(qO b (N:Int)).toNat<2^64:=by unfold qO;omega
  by_cases h1:N<64
  ·have:=Qu _ 0 hx h3 (by rw[Nat.pow_zero,Nat.mod_one]);exact⟨by omega,this.2⟩
  ·by_cases h2:N<128
   ·have hb:jZ b (N:Int)=bits .and .u64 b (az ((N-64:Nat):Int)):=by
     unfold jZ;rw[if_neg (by omega),if_pos (by omega),show(N:Int)%64=((N-64:Nat):Int) by omega]
    have hz:(qO b (N:Int)).toNat%2^(N-64)=0:=by unfold qO;rw[hb];exact KR b (N-64) (by omega)
    have:=Qu _ (N-64) hx h3 hz;exact⟨by omega,this.2⟩
   ·have hb:jZ b (N:Int)=b:=by unfold jZ;rw[if_neg (by omega),if_neg (by omega)]
    exact absurd (by unfold qO;rw[hb];exact sub_self b) h4
theorem Xv(a b n:Int)(w:l6)(ht:Tab w)(hD:5<w.heap.size)(h0:0<=n):Calls prog 285 #[zy a b,.int .i64 n] w fun e w'=>NextB n e/\fj w w':=by
 have h5:=ze (Bs.one w [.int .u64 a,.int .u64 b] 325);have HF:=bq a b n h0;have ra:0<=qN a n/\qN a n<18446744073709551616:=xm .andNot a _;have rb:0<=qO b n/\qO b n<18446744073709551616:=xm .andNot b _;have h6:=ze (fun V=>ux a b n V);generalize qN a n=x0 at*;generalize qO b n=x1 at*;obtain⟨X0,rfl⟩:=QM ra.1;obtain⟨X1,rfl⟩:=QM rb.1;have h4:=ze (fun V(hb:fj w V) x(hx:x<18446744073709551616)=>cP x hx V (ht.below hb hD));have h8:=ze (show X0<18446744073709551616/\X1<18446744073709551616 by omega);have h7:=ze HF;clear ht HF ra rb;by_cases z0:X0=0
 ·by_cases z1:X1=0
  ·have q0:(((X0:Nat):Int)==0)=true:=by simp[z0]
   have q1:(((X1:Nat):Int)==0)=true:=by simp[z1]
   clear z0 z1
   go_in
   go_wp2_with(go_at_call 289;refine(h6.o _).mono ?_;rintro r w1 ⟨rfl,h1⟩;have h2:=ze (h5.o.step h1);clear h1);go_ret2;exact⟨.inr rfl,(h2.o.b).alloc h2.o.b.size _⟩
  ·have q0:(((X0:Nat):Int)==0)=true:=by simp[z0]
   have q1:(((X1:Nat):Int)==0)=false:=by simp[z1]
   obtain⟨f1,f2⟩:=h7.o.2 (by omega);rw[XX]at f1 f2;have HT:=ze (fun V(hb:fj w V)=>h4.o V hb X1 h8.o.2);generalize Lib.ctz 64 X1=z at*;clear z0 z1 h4
   go_in
   go_wp2_with(first
    |(go_at_call 293;(with_reducible refine(HT.o _ h3.o).mono ?_);rintro r w3 ⟨rfl,rfl⟩)
    |(go_at_call 289;refine(h6.o _).mono ?_;rintro r w1 ⟨rfl,h1⟩;have h2:=ze (h5.o.step h1);have h3:=ze ((h2.o.new (q:=w1.heap.size) rfl [.int .u64 (X0:Int),.int .u64 (X1:Int)] 325).b);clear h1))
   go_ret2;exact⟨.inl ⟨_,rfl,by omega,by omega,by omega⟩,h3.o⟩
 ·have q0:(((X0:Nat):Int)==0)=false:=by simp[z0]
  obtain⟨f1,f2⟩:=h7.o.1 (by omega);rw[XX]at f1 f2;have HT:=ze (fun V(hb:fj w V)=>h4.o V hb X0 h8.o.1);generalize Lib.ctz 64 X0=z at*;clear z0 h4
  go_in
  go_wp2_with(first
   |(go_at_call 293;(with_reducible refine(HT.o _ h3.o).mono ?_);rintro r w3 ⟨rfl,rfl⟩)
   |(go_at_call 289;refine(h6.o _).mono ?_;rintro r w1 ⟨rfl,h1⟩;have h2:=ze (h5.o.step h1);have h3:=ze ((h2.o.new (q:=w1.heap.size) rfl [.int .u64 (X0:Int),.int .u64 (X1:Int)] 325).b);clear h1))
  go_ret2;exact⟨.inl ⟨_,rfl,by omega,by omega,by omega⟩,h3.o⟩
end
end Go.Proofs.YtdeogmbfgkepeaaGreatDoor
