/- Contracts for WholeDelivers. -/
import Derived.Test.YtdeogmbfgkepeaaGreatDoorR16
import Derived.Test.YtdeogmbfgkepeaaGreatDoorR28
set_option linter.unusedVariables false
set_option linter.unusedSimpArgs false
set_option maxRecDepth 100000
set_option maxHeartbeats 64000000
namespace Go.Proofs.YtdeogmbfgkepeaaGreatDoor
open Go.Proofs.Tryz
open Go.Value renaming int->O
open Go.IntKind renaming i64->J,u64->U
section
open Go.RowKit HB
theorem zm{fn:Func}{p t:Tmp}{ty:TypeId}(h:fn.results= #[.cell p ty,.tmp t])(tmps:Array Value)(P:Program)(w:l6):
  (results fn tmps).run P w=((asAddr (tmps.getD p undef)).run P w).andThen fun a w₁=>((loadVar ty a).run P w₁).andThen fun v w₂=>.ok (.tuple #[v,tmps.getD t undef]) w₂:=by
 simp only[results,h];simp[Sem.run_bind,Result.andThen]
abbrev je(a b c:Int):Value:=.agg #[O J a,O J b,O J c]
theorem JW(n by_:Int)(w:l6)(h0:0<=n)(h1:0<by_)(h2:n<=9223372036854775807)(h3:by_<=9223372036854775807):Calls prog 41 #[O J n,O J by_] w (fk (.tuple #[je (n/by_) (n%by_) by_,O J 0]) w):=by
 have e0:decide (n<0)=false:=by simp;omega
 have e1:decide (by_<0)=false:=by simp;omega
 have e2:(by_==0)=false:=by simp;omega
 go_in
 go_wp2_with fail;go_region
 all_goals go_wp2_with fail
 refine bodyPost_ret (v:=.tuple #[je (n/by_) (n%by_) by_,O J 0]) (by rw[zm rfl];go_simp) rfl ?_;exact⟨rfl,by go_grown⟩
theorem VK(a b c:Int)(w:l6)(h0:0<=a)(h1:0<=b)(h2:b<c):Calls prog 239 #[je a b c] w (fk (.bool true) w):=by
 have e0:decide (0<=a)=true:=by simp;omega
 have e1:decide (0<=b)=true:=by simp;omega
 have e2:decide (b<c)=true:=by simp;omega
 go_in
 go_wp2_with fail;go_ret;exact⟨rfl,by go_grown⟩
theorem VL(p m:Int)(w:l6)(h0:1<=p)(h1:p<=100)(h2:1<=m)(h3:m<=10000000):Calls prog 42 #[O J p,O J m] w (fm (.tuple #[O J (m/100*p+(m%100*p+99)/100),O J 0]) w):=by
 have e0:decide (p<1)=false:=by simp;omega
 have e1:decide (100<p)=false:=by simp;omega
 have e2:decide (m<1)=false:=by simp;omega
 have b1:0<=m/100*p:=JE (by omega) (by omega);have b2:m/100*p<=100000*100:=yO (by omega) h1 (by omega) (by omega);have b3:0<=m%100*p:=JE (by omega) (by omega);have b4:m%100*p<=99*100:=yO (by omega) h1 (by omega) (by omega)
 go_in
 go_wp2_with fail;go_ret2;exact⟨rfl,rfl⟩
theorem Kj(p m:Int)(h0:1<=p)(h1:p<=100)(h2:1<=m):1<=m/100*p+(m%100*p+99)/100/\m/100*p+(m%100*p+99)/100<=m:=by
 have k0:0<=m/100:=by omega
 have k1:0<=m%100:=by omega
 have k2:m=m/100*100+m%100:=by omega
 generalize m/100=q at k0 k2⊢;generalize m%100=r at k1 k2⊢;have a1:q*1<=q*p:=XU h0 k0;have a2:q*p<=q*100:=XU h1 k0;have a3:r*1<=r*p:=XU h0 k1;have a4:r*p<=r*100:=XU h1 k1;omega
theorem JX(A:iX)(n k B:Nat)(l:List Tr)(hz:Int)(w:l6)(h:Trs w B A n l)(hB:B<=w.heap.size)(hn:n<=10000000)(h1:1<=hz)(h2:hz<=9000000000000000):
  Calls prog 150 #[.slice A n k,O J hz] w fun e w'=>(∃a:Int,e=.returned (O J a)/\yQ a)/\fj w w':=by
 have HC:=ze (yB A n k B l w h hB hn);have e0:decide (hz<1)=false:=by simp;omega
 have e1:(hz==0)=false:=by simp;omega
 go_in
 go_wp2_with(go_at_call 11;refine HC.o.mono ?_;rintro r w1 ⟨⟨a,b,c,rfl,h0,h3,-⟩,hb⟩;have hd:0<=a*300/hz:=Wi (by omega) (by omega);have h4:a*300/hz<=a*300:=iI _ (by omega));go_ret;exact⟨⟨_,rfl,⟨by omega,by omega⟩⟩,hb⟩
theorem KA(a c:Nat)(hc:0<c)(ha:a<18446744073709551616)(w:l6):Calls prog 267 #[O U 0,O U a,O U c] w (fk (.tuple #[O U (a/c:Nat),O U (a%c:Nat)]) w):=by
 have e0:((c:Int)==0)=false:=by simp;omega
 have e1:decide ((c:Int)<=0)=false:=by simp;omega
 go_in
 go_wp2_with fail;go_region
 all_goals go_wp2_with fail
 go_ret2;refine⟨Y8 ?_ rfl,fh.drew⟩;have h1:=Nat.div_le_self a c
 show IntKind.u64.wrap (((a/c:Nat):Int))=_
 rw[IntKind.wrap_u64];generalize a/c=z at h1⊢;omega
theorem Xf(k:Nat)(h:k<9223372036854775808)(w:l6):Calls prog 61 #[O U k,.bool false] w (fm (.tuple #[O J k,O J 0]) w):=vV k (by omega) (by omega) w
theorem Qb(a b c:Nat)(ha:a<2147483648)(hb:b<2147483648)(hc:c<2147483648)(h0:0<c)(w:l6):Calls prog 240 #[O J a,O J b,O J c] w (fk (.tuple #[O J (a*b/c:Nat),O J 0]) w):=by
 have hp:a*b<2147483648*2147483648:=Nat.mul_lt_mul'' ha hb;have hq:a*b/c<=a*b:=Nat.div_le_self _ _;have eA:decide ((a:Int)<0)=false:=by simp
 have eB:decide ((b:Int)<0)=false:=by simp
 have eC:decide ((c:Int)<0)=false:=by simp
 have e0:((c:Int)==0)=false:=by simp;omega
 have e1:decide ((c:Int)<=0)=false:=by simp;omega
 have HM:=ze (yC a b ha hb w);have HD:=ze (KA (a*b) c h0 (by omega) w);have HS:=ze (fun V=>Xf (a*b/c) (by generalize a*b/c=z at hq;omega) V)
 go_in
 go_wp2_with(first
  |(go_at_call 59;(refine HM.o.mono ?_);rintro r w1 ⟨rfl,rfl⟩)
  |(go_at_call 267;(refine HD.o.mono ?_);rintro r w2 ⟨rfl,hb⟩)
  |(go_at_call 61;(refine(HS.o _).mono ?_);rintro r w3 ⟨rfl,rfl⟩))
 go_ret2;exact⟨rfl,hb⟩
theorem Uc(a b c:Nat)(ha:a<2147483648)(hb:b<c)(hc:c<2147483648)(w:l6):Calls prog 199 #[je a b c] w (fk (.tuple #[O J (a*100+b*100/c:Nat),O J 0]) w):=by
 have hq:b*100/c<=b*100:=Nat.div_le_self _ _;have HN:=ze (Bx.new w [O J a,O J b,O J c] 60);have HR:=ze (fun V=>VK (a:Int) b c V (by omega) (by omega) (by omega));have HM:=ze (fun V=>(show Calls prog 34 #[O J a,O J 100] V fun e w'=>e=.returned (.tuple #[O J (a*100:Nat),O J 0])/\w'=V from J5 a 100 ha (by omega) V));have HD:=ze (fun V=>(show Calls prog 240 #[O J b,O J 100,O J c] V fun e w'=>e=.returned (.tuple #[O J (b*100/c:Nat),O J 0])/\fj V w' from Qb b 100 c (by omega) (by omega) hc (by omega) V));have HA:=ze (fun V=>xI (a*100) (b*100/c) (by omega) (by omega) V)
 go_in
 go_wp2_with(first
  |(go_at_call 239;refine(HR.o _).mono ?_;rintro r w1 ⟨rfl,h0⟩;obtain⟨⟨c0,c1,c2⟩,f0,f1,f2⟩:=(HN.o.below h0 (by simp)).o3;have HB:=ze (((Below.refl w.heap.size w).alloc fi _).trans (h0.mono (by simp)));clear h0)
  |(go_at_call 34;refine(HM.o _).mono ?_;rintro r w2 ⟨rfl,rfl⟩)
  |(go_at_call 240;refine(HD.o _).mono ?_;rintro r w3 ⟨rfl,h1⟩;have h2:=ze (HB.o.trans (h1.mono HB.o.size));clear h1)
  |(go_at_call 35;refine(HA.o _).mono ?_;rintro r w4 ⟨rfl,rfl⟩))
 go_ret2;exact⟨rfl,h2.o⟩
theorem jc(n:Int)(h:yQ n):(zC n).size<=21:=by
 obtain⟨h0,h1⟩:=h;have h2:=kR n.natAbs (by omega);unfold zC cd;split
 ·rw[ByteArray.size_append];show 1+_<=21;omega
 ·omega
def Xg(m:Nat)(e:Ending):Prop:=∃ s:iY,e=.returned (.string s)/\s.size<=m
theorem Ud(a b c:Int)(ha:yQ a)(hb:yQ b)(hc:yQ c)(w:l6):Calls prog 39 #[je a b c] w fun e w'=>Xg 100 e/\fj w w':=by
 have HB:=ze (Bs.one w [O J a,O J b,O J c] 60);have za:=jc a ha;have zb:=jc b hb;have zc:=jc c hc;have HA:=ze (fun V=>ja a ha V);have h3:=ze (fun V=>ja b hb V);have HC:=ze (fun V=>ja c hc V);by_cases h0:b=0
 ·subst h0;have HX:=ze (Bx.new w [O J a,O J 0,O J c] 60)
  go_in
  go_wp2_with(go_at_call 21;refine(HA.o _).mono ?_;rintro r w1 ⟨rfl,h5⟩);go_ret;exact⟨⟨_,rfl,by omega⟩,((Below.refl w.heap.size w).alloc fi _).trans (h5.mono (by simp))⟩
 ·have e0:(b==0)=false:=by simpa using h0
  have g1:¬ 9223372036854775807<(zC a).size+1:=by omega
  have g2:¬ 9223372036854775807<(zC a).size+1+(zC b).size:=by omega
  have g3:¬ 9223372036854775807<(zC a).size+1+(zC b).size+1:=by omega
  have g4:¬ 9223372036854775807<(zC a).size+1+(zC b).size+1+(zC c).size:=by omega
  have FIN:=ze (show(((((zC a)++(⟨#[32]⟩:iY))++zC b)++(⟨#[47]⟩:iY))++zC c).size<=100 from by
   simp only[ByteArray.size_append]
   show _+1+_+1+_<=100
   omega)
  go_in
  go_wp2_with fail;refine j9 (w:=w) (fun W=>Bs w W [(w.heap.size,[O J a,O J b,O J c])]) HB.o (by go_grown) (by simp) ?_;rintro W hb h6 h7;clear HB h6 h7;have HB:=ze hb;clear hb;have MK:=ze (fun(W:l6)(h:Bs w W [(w.heap.size,[O J a,O J b,O J c])])=>(show Bs w W [(w.heap.size,[O J a,O J b,O J c])]/\W.cell? ⟨w.heap.size,0,none⟩=some (O J a)/\W.cell? ⟨w.heap.size,1,none⟩=some (O J b)/\W.cell? ⟨w.heap.size,2,none⟩=some (O J c)from⟨h,((h.cell (q:=w.heap.size) (l:=[O J a,O J b,O J c]) (by simp)) 0 _ rfl).1,((h.cell (q:=w.heap.size) (l:=[O J a,O J b,O J c]) (by simp)) 1 _ rfl).1,((h.cell (q:=w.heap.size) (l:=[O J a,O J b,O J c]) (by simp)) 2 _ rfl).1⟩))
  go_region_held3 (fun W=>Bs w W [(w.heap.size,[O J a,O J b,O J c])]/\W.cell? ⟨w.heap.size,0,none⟩=some (O J a)/\W.cell? ⟨w.heap.size,1,none⟩=some (O J b)/\W.cell? ⟨w.heap.size,2,none⟩=some (O J c))
   (first|(with_reducible exact MK.o _ h2.o)|(with_reducible exact MK.o _ HB.o.drew))
   (first
    |(go_at_call 21;go_split_ands;(with_reducible refine(HA.o _).mono ?_);rintro r wX ⟨rfl,h1⟩;have h2:=ze ((show Bs w _ [(w.heap.size,[O J a,O J b,O J c])]from by assumption).step h1);clear h1)
    |(go_at_call 21;go_split_ands;(with_reducible refine(h3.o _).mono ?_);rintro r wX ⟨rfl,h1⟩;have h2:=ze ((show Bs w _ [(w.heap.size,[O J a,O J b,O J c])]from by assumption).step h1);clear h1)
    |(go_at_call 21;go_split_ands;(with_reducible refine(HC.o _).mono ?_);rintro r wX ⟨rfl,h1⟩;have h2:=ze ((show Bs w _ [(w.heap.size,[O J a,O J b,O J c])]from by assumption).step h1);clear h1))
  all_goals
   go_split_ands;have h4:=ze (show Bs w _ [(w.heap.size,[O J a,O J b,O J c])]from by assumption);go_wp2_with fail;go_ret;exact⟨⟨_,rfl,FIN.o⟩,h4.o.b⟩
theorem Qc(n:Int)(h:yQ n)(w:l6):Calls prog 200 #[O J n,O J 2] w fun e w'=>Xg 100 e/\fj w w':=by
 have HS:=ze (fun V=>xH n h V);have HP:=ze (fun V=>kj n.natAbs (by obtain⟨h0,h1⟩:=h;omega) V);have hz:=kR n.natAbs (by obtain⟨h0,h1⟩:=h;omega)
 go_in
 go_wp2_with(first
  |(go_at_call 60;refine(HS.o _).mono ?_;rintro r w1 ⟨rfl,rfl⟩)
  |(go_at_call 65;refine(HP.o _).mono ?_;rintro r w2 ⟨rfl,hb⟩))
 have HB:=ze hb;clear hb;rw[show min (max (2:Int) 0) 18=2 from by decide]
 go_loopw [5] (fun s wr=>∃ t:iY,s=.string t/\t.size<=24/\wr=w2) (fun s _=>match s with|.string t=>3-t.size|_=>0)
 case atStart=>exact⟨_,rfl,by omega,rfl⟩
 case round=>
  obtain⟨t,rfl,ht,rfl⟩:=hrel;by_cases h2:t.size<=2
  ·have e0:decide ((t.size:Int)<=2)=true:=by simp;omega
   have g0:¬ 9223372036854775807<1+t.size:=by omega
   go_wp2_with fail;refine⟨⟨_,rfl,?_,by trivial⟩,?_⟩
   ·rw[ByteArray.size_append];show 1+_<=24;omega
   ·show 3-((⟨#[48]⟩:iY)++t).size<3-t.size
    rw[ByteArray.size_append];show 3-(1+_)<_;omega
  ·have e0:decide ((t.size:Int)<=2)=false:=by simp;omega
   have i0:(0:Int)<=(t.size:Int)-2:=by omega
   have i1:(t.size:Int)-2<=(t.size:Int):=by omega
   go_wp2_with fail;go_region
   all_goals go_wp2_with fail
   all_goals
    go_ret;refine⟨⟨_,rfl,?_⟩,HB.o.drew⟩;simp only[ByteArray.size_append,ByteArray.size_extract]
   ·show 1+(_+1+_)<=100
    omega
   ·show _+1+_<=100
    omega
theorem Qd(a b c:Int)(w:l6):Calls prog 151 #[je a b c,.bool false] w fun e w'=>Xg 100 e/\fj w w':=by
 go_in
 go_wp2_with fail;go_ret;exact⟨⟨_,rfl,by decide⟩,by go_grown⟩
theorem Ue(a b c:Nat)(ha:a<2147483648)(hb:b<c)(hc:c<2147483648)(w:l6):Calls prog 151 #[je a b c,.bool true] w fun e w'=>Xg 100 e/\fj w w':=by
 have hq:b*100/c<=b*100:=Nat.div_le_self _ _;have HH:=ze (fun V=>Uc a b c ha hb hc V);have HF:=ze (fun V=>Qc ((a*100+b*100/c:Nat):Int) ⟨by generalize b*100/c=z at hq;omega,by generalize b*100/c=z at hq;omega⟩ V)
 go_in
 go_wp2_with(first
  |(go_at_call 199;refine(HH.o _).mono ?_;rintro r w1 ⟨rfl,h0⟩;have HB:=ze (((Below.refl w.heap.size w).alloc fi _).trans (h0.mono (by simp)));clear h0)
  |(go_at_call 200;refine(HF.o _).mono ?_;rintro r w2 ⟨⟨s,rfl,hs⟩,h1⟩;have h2:=ze (HB.o.trans (h1.mono HB.o.size));clear h1))
 go_ret;exact⟨⟨_,rfl,hs⟩,h2.o⟩
end
section
open Go.RowKit HB HistP
theorem Ui(b d i:Int)(hr:eZ b d=true)(hb0:1<=b)(hb1:b<=64)(hd0:1<=d)(hd1:d<=4096)(h0:0<=i)(h1:i<b)(w:l6):
  Calls prog 203 #[O J b,O J d,O J i] w fun e w'=>(e=.returned (.tuple #[O J (i*d),O J (if i=b-1 then 0 else(i+1)*d),.bool (decide (i≠b-1))]))/\w'=w:=by
 have HH:=ze (fun V=>Vv b d V);rw[hr]at HH;have m0:0<=i*d:=JE h0 (by omega);have m1:i*d<=64*4096:=yO (by omega) hd1 (by omega) (by omega);have m2:(i+1)*d=i*d+d:=by rw[Vo,Hy]
 have e0:decide (i<0)=false:=by simp;omega
 have e1:decide (b<=i)=false:=by simp;omega
 by_cases hl:i=b-1
 ·subst hl;have e3:wrap64 ((b-1)*d)=(b-1)*d:=by unfold wrap64;omega
  go_in
  go_wp2_with(go_at_call 36;refine(HH.o _).mono ?_;rintro r w1 ⟨rfl,rfl⟩);go_ret3
  first|exact⟨rfl,rfl⟩|exact⟨by simp,rfl⟩|exact⟨rfl,by trivial⟩
 ·have e2:(i==b-1)=false:=by simp[hl]
  go_in
  go_wp2_with(go_at_call 36;refine(HH.o _).mono ?_;rintro r w1 ⟨rfl,rfl⟩);go_ret3;exact⟨rfl,rfl⟩
def jo(b d i:Int):iY:=if i=b-1 then zC (i*d)++⟨#[43]⟩else(zC (i*d)++⟨#[45]⟩)++zC ((i+1)*d-1)
theorem Gi(b d i:Int)(hr:eZ b d=true)(hb0:1<=b)(hb1:b<=64)(hd0:1<=d)(hd1:d<=4096)(h0:0<=i)(h1:i<b)(w:l6):
  Calls prog 155 #[O J b,O J d,O J i] w (fk (.string (jo b d i)) w):=by
 have m0:0<=i*d:=JE h0 (by omega);have m1:i*d<=64*4096:=yO (by omega) hd1 (by omega) (by omega);have m2:(i+1)*d=i*d+d:=by rw[Vo,Hy]
 have HE:=ze (Ui b d i hr hb0 hb1 hd0 hd1 h0 h1 w);have I1:yQ (i*d):=⟨by omega,by omega⟩;have I2:yQ ((i+1)*d-1):=⟨by omega,by omega⟩;have HL:=ze (fun V=>ja (i*d) I1 V);have HH:=ze (fun V=>ja ((i+1)*d-1) I2 V);have z1:=jc _ I1;have z2:=jc _ I2;have g1:¬ 9223372036854775807<(zC (i*d)).size+1:=by omega
 have g2:¬ 9223372036854775807<(zC (i*d)).size+1+(zC ((i+1)*d-1)).size:=by omega
 by_cases hl:i=b-1
 ·rw[if_pos hl,decide_eq_false (show¬(i≠b-1)from fun h=>h hl)]at HE;unfold jo;rw[if_pos hl];clear hl
  go_in
  go_wp2_with(first
   |(go_at_call 203;refine HE.o.mono ?_;rintro r w1 ⟨rfl,rfl⟩)
   |(go_at_call 21;refine(HL.o _).mono ?_;rintro r w2 ⟨rfl,hb⟩))
  go_ret;exact⟨rfl,hb⟩
 ·rw[if_neg hl,decide_eq_true hl]at HE;unfold jo;rw[if_neg hl];clear hl;have b0:0<=(i+1)*d:=by omega
  have b1:(i+1)*d<=1000000:=by omega
  clear m2;generalize(i+1)*d=hi at*
  go_in
  go_wp2_with(first
   |(go_at_call 203;refine HE.o.mono ?_;rintro r w1 ⟨rfl,rfl⟩)
   |(go_at_call 21;(with_reducible refine(HL.o _).mono ?_);rintro r w2 ⟨rfl,hb⟩)
   |(go_at_call 21;refine(HH.o _).mono ?_;rintro r w3 ⟨rfl,h3⟩;have h2:=ze (hb.trans (h3.mono hb.size))))
  go_ret;exact⟨rfl,h2.o⟩
end
end Go.Proofs.YtdeogmbfgkepeaaGreatDoor
