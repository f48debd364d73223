/- Contracts that WholeBins needs. Each tells its conditions. -/
import Derived.Test.YtdeogmbfgkepeaaGreatDoorQ33
import Derived.Test.YtdeogmbfgkepeaaGreatDoorQ34
import Derived.Test.YtdeogmbfgkepeaaGreatDoorQ41
set_option linter.unusedVariables false
set_option linter.unusedSimpArgs false
set_option maxRecDepth 100000
set_option maxHeartbeats 64000000
namespace Go.Proofs.YtdeogmbfgkepeaaGreatDoor
open Go.Proofs.Tryz
open Go.Value renaming int->O
open Go.IntKind renaming i64->J,u64->U
section
open Go.RowKit HB Go.Maps CalP
theorem KS(A:Option Addr)(n c B:Nat)(l:List Int)(w:World)(h:Rd w B 1 A n (l.map (Value.int .i64)))(hn:n<=1000000):Calls prog 248 #[.slice A n c] w fun e w'=>(∃m:Int,e=.returned (O J m)/\-1<=m/\m<n+1)/\w'=w:=by
 have hl:l.length=n:=by have:=h.1;simpa using this
 have HR:=ze h;clear h;go_enter func248,ntmps248;go_wp2_with fail
 go_loopw [3,8] (fun b i wr=>∃(k:Nat)(m:Int),k<=n/\i=O J k/\b=O J m/\(m=-1\/∃ j:Nat,m=j/\j<n)/\wr=w) (fun _ i _=>n-(intOf i).toNat)
 case atStart=>exact⟨0,-1,Nat.zero_le _,rfl,rfl,.inl rfl,rfl⟩
 case round=>
  obtain⟨k,m,hk,rfl,rfl,hm,rfl⟩:=hrel;by_cases hlt:k<n
  ·obtain⟨b,off,hA,hbb,hc⟩:=HR.o.at_ (by omega);have hg:l[k]?=some (l[k]'(by omega)):=List.getElem?_eq_getElem _;have ck:=hc k (O J (l[k]'(by omega))) (by rw[List.getElem?_map,hg];rfl);generalize l[k]'(by omega)=x at ck;have i0:(0:Int)<=(k:Int):=by omega
   have i1:(k:Int)<(n:Int):=by omega
   subst hA;rcases hm with rfl|⟨j,rfl,hj⟩
   ·clear hc hg;go_wp2_with fail;go_roundw
    case rel=>exact⟨k+1,k,by omega,by go_num,rfl,.inr ⟨k,rfl,hlt⟩,trivial⟩
    case measure=>simp[intOf];omega
   ·have hg2:l[j]?=some (l[j]'(by omega)):=List.getElem?_eq_getElem _;have cj:=hc j (O J (l[j]'(by omega))) (by rw[List.getElem?_map,hg2];rfl);generalize l[j]'(by omega)=y at cj;have j0:(0:Int)<=(j:Int):=by omega
    have j1:(j:Int)<(n:Int):=by omega
    have j2:¬ ((j:Int)<0):=by omega
    clear hc hg hg2;by_cases hxy:x<y
    ·go_wp2_with fail;go_roundw
     case rel=>exact⟨k+1,k,by omega,by go_num,rfl,.inr ⟨k,rfl,hlt⟩,trivial⟩
     case measure=>simp[intOf];omega
    ·go_wp2_with fail;go_roundw
     case rel=>exact⟨k+1,j,by omega,by go_num,rfl,.inr ⟨j,rfl,hj⟩,trivial⟩
     case measure=>simp[intOf];omega
  ·obtain rfl:k=n:=by omega
   go_wp2_with fail;go_ret;refine⟨⟨_,rfl,?_⟩,rfl⟩;rcases hm with rfl|⟨j,rfl,hj⟩<;>omega
theorem Xx(a b:Int)(w:World)(h: -1000000000<=b-a)(h1:b-a<=1000000000):Calls prog 188 #[O J a,O J b] w (fk (O J (yw (b-a))) w):=
 (qn a b w h h1).mono fun e w'⟨h1,h2⟩=>⟨h1,h2▸fh⟩
theorem GJ(s:Sc)(hs:s.ok)(sA:Option Addr)(sn sk:Nat)(cr:Cr)(A:Option Addr)(n k:Nat)(a b pi pt pf po:Int)(w:World)(c0:0<=cr.pos)(c1:cr.pos<=10000)(f0:0<=pf)(f1:pf<=128)(t0:0<=po)(t1:po<=128)(ht:Tab w)(hD:5<w.heap.size):
  Calls prog 252 #[s.v sA sn sk,cr.v A n k,zy a b,.agg #[O J pi,O J pt,O J pf,O J po]] w fun e w'=>RI e/\Below w.heap.size w w':=by
 have HB0:=ze (Bs.four w (s.ls sA sn sk) (cr.ls A n k) [O U a,O U b] [O J pi,O J pt,O J pf,O J po] 25 265 325 117);have HTB:=ze (fun V(hb:Below w.heap.size w V)=>ht.below hb hD);clear ht;go_enter func252,ntmps252;go_upto_region 1 with(fail);refine j9 (w:=w) (fun W=>Bs w W [(w.heap.size+1+1+1,[O J pi,O J pt,O J pf,O J po]),(w.heap.size+1+1,[O U a,O U b]),(w.heap.size+1,cr.ls A n k),(w.heap.size,s.ls sA sn sk)]) HB0.o (by go_grown) (by simp;omega) ?_;rintro V hb hbV hzV;have HS:=ze (hb.cell (q:=w.heap.size) (l:=s.ls sA sn sk) (by simp));have HC:=ze (hb.cell (q:=w.heap.size+1) (l:=cr.ls A n k) (by simp));have HM:=ze (hb.cell (q:=w.heap.size+1+1) (l:=[O U a,O U b]) (by simp));have HP:=ze (hb.cell (q:=w.heap.size+1+1+1) (l:=[O J pi,O J pt,O J pf,O J po]) (by simp));have h0:=hb.lt (q:=w.heap.size) (l:=s.ls sA sn sk) (by simp);have h1:=hb.lt (q:=w.heap.size+1) (l:=cr.ls A n k) (by simp);have h2:=hb.lt (q:=w.heap.size+1+1) (l:=[O U a,O U b]) (by simp);have h3:=hb.lt (q:=w.heap.size+1+1+1) (l:=[O J pi,O J pt,O J pf,O J po]) (by simp);have HBV:=ze hbV;have hzz:=hbV.size;have HTV:=ze (fun W(hb:Below V.heap.size V W)=>HTB.o W (hbV.trans (hb.mono hbV.size)));have HDV:5<V.heap.size:=by omega
 clear HB0 HTB hb hbV hzV;generalize hq:w.heap.size=q at*;have HQ:=ze hq;clear hq;have HST:=ze (fun W=>uC s sA sn sk 1 W);have HDI:=ze (fun W=>Xx pf po W (by omega) (by omega));generalize yw (po-pf)=D at HDI;have HOF:=ze (fun W(hb:Below V.heap.size V W)=>WS s hs sA sn sk cr A n k a b pf D W c0 c1 f0 f1 (HTV.o W hb).tz (by have:=hb.size;omega));have HHF:=ze (fun x W=>ki a b x W);have HBT:=ze (fun W(hb:Below V.heap.size V W)=>Qv a b pf po W (HTV.o W hb) (by have:=hb.size;omega))
 go_cut [9] (fun v wx=>∃ z:Int,v=O J z/\Below V.heap.size V wx)
 case first=>
  have MK:=ze (fun W(hb:Below V.heap.size V W)=>(show s.K sA sn sk W q/\cr.K A n k W (q+1)/\xD (O U a) (O U b) W (q+1+1)/\W.cell? ⟨q+1+1+1,2,none⟩=some (O J pf)/\W.cell? ⟨q+1+1+1,3,none⟩=some (O J po)/\Below V.heap.size V W from⟨(HS.o.below hb h0).k13 rfl,(HC.o.below hb h1).k6 rfl,(HM.o.below hb h2).k2,((HP.o.below hb h3) 2 _ rfl).1,((HP.o.below hb h3) 3 _ rfl).1,hb⟩))
  go_region_held3 (fun W=>s.K sA sn sk W q/\cr.K A n k W (q+1)/\xD (O U a) (O U b) W (q+1+1)/\W.cell? ⟨q+1+1+1,2,none⟩=some (O J pf)/\W.cell? ⟨q+1+1+1,3,none⟩=some (O J po)/\Below V.heap.size V W)
   (((refine MK.o _ ?_);(first|(with_reducible exact HBN.o)|(with_reducible exact fh.drew)|(go_grown;done)|(go_grown;with_reducible exact HBN.o))))
   (first
    |(go_at_call 188;go_split_ands;(with_reducible refine(HDI.o _).mono ?_);rintro r wX ⟨rfl,hbX⟩;have HBM:=ze ((‹Below V.heap.size V _›).trans (hbX.mono (‹Below V.heap.size V _›).size));(try clear HBN);have HBN:=ze HBM.o;(try clear hzN);have hzN:=HBN.o.size;clear HBM hbX)
    |(go_at_call 249;go_split_ands;(with_reducible refine(HOF.o _ (by assumption)).mono ?_);rintro r wX ⟨⟨z,rfl⟩,hbX⟩;have HBM:=ze ((‹Below V.heap.size V _›).trans (hbX.mono (‹Below V.heap.size V _›).size));(try clear HBN);have HBN:=ze HBM.o;(try clear hzN);have hzN:=HBN.o.size;clear HBM hbX))
  all_goals(
   go_wp2_with fail
   go_meet
   exact⟨z,rfl,HBN.o⟩)
 case rest=>
 obtain⟨z,rfl,hbw⟩:=hcut;have HB1:=ze hbw;clear hbw HOF HDI;have HF1:=ze (fun W=>ki a b pf W);have HF2:=ze (fun W=>ki a b po W);generalize kL a b pf=X1 at*;generalize kL a b po=X2 at*;clear HHF;obtain⟨W1,hW1⟩:∃ W1,W1=wc:=⟨_,rfl⟩;subst hW1;have MKO:=ze (fun W(hb:Below V.heap.size V W)=>(show((s.K sA sn sk W q)/\(xD (O U a) (O U b) W (q+1+1))/\W.cell? ⟨q+1+1+1,2,none⟩=some (O J pf)/\W.cell? ⟨q+1+1+1,3,none⟩=some (O J po))from
  ⟨((HS.o.below hb h0).o13).1,((HM.o.below hb h2).o2).1,((HP.o.below hb h3) 2 _ rfl).1,((HP.o.below hb h3) 3 _ rfl).1⟩))
 obtain⟨⟨s0,s1,s2,s3,s4,s5,s6,s7,s8,s9,s10,s11,s12⟩,⟨m0,m1⟩,p2,p3⟩:=MKO.o _ HB1.o;cases X1<;>cases X2
 all_goals(
  have HBK:=ze HB1.o;go_upto_region 6 with(first
   |(go_at_call 257;(with_reducible refine(HF1.o _).mono ?_);rintro r wX ⟨rfl,hbX⟩;have HBX:=ze (HBK.o.trans (hbX.mono HBK.o.size));clear HBK hbX;have HBK:=ze HBX.o;clear HBX s0 s1 s2 s3 s4 s5 s6 s7 s8 s9 s10 s11 s12 m0 m1 p2 p3;obtain⟨⟨s0,s1,s2,s3,s4,s5,s6,s7,s8,s9,s10,s11,s12⟩,⟨m0,m1⟩,p2,p3⟩:=MKO.o _ HBK.o)
   |(go_at_call 257;(with_reducible refine(HF2.o _).mono ?_);rintro r wX ⟨rfl,hbX⟩;have HBX:=ze (HBK.o.trans (hbX.mono HBK.o.size));clear HBK hbX;have HBK:=ze HBX.o;clear HBX s0 s1 s2 s3 s4 s5 s6 s7 s8 s9 s10 s11 s12 m0 m1 p2 p3;obtain⟨⟨s0,s1,s2,s3,s4,s5,s6,s7,s8,s9,s10,s11,s12⟩,⟨m0,m1⟩,p2,p3⟩:=MKO.o _ HBK.o)
   |(go_at_call 271;(with_reducible refine(HST.o _).mono ?_);rintro r wX ⟨⟨y,rfl⟩,hbX⟩;have HBX:=ze (HBK.o.trans (hbX.mono HBK.o.size));clear HBK hbX;have HBK:=ze HBX.o;clear HBX s0 s1 s2 s3 s4 s5 s6 s7 s8 s9 s10 s11 s12 m0 m1 p2 p3;obtain⟨⟨s0,s1,s2,s3,s4,s5,s6,s7,s8,s9,s10,s11,s12⟩,⟨m0,m1⟩,p2,p3⟩:=MKO.o _ HBK.o))
  clear s0 s1 s2 s3 s4 s5 s6 s7 s8 s9 s10 s11 s12 m0 m1 p2 p3;have MK:=ze (fun W(hb:Below V.heap.size V W)=>(show s.K sA sn sk W q/\W.cell? ⟨q+1,5,none⟩=some (.slice A n k)/\xD (O U a) (O U b) W (q+1+1)/\W.cell? ⟨q+1+1+1,2,none⟩=some (O J pf)/\W.cell? ⟨q+1+1+1,3,none⟩=some (O J po)/\Below V.heap.size V W from⟨(HS.o.below hb h0).k13 rfl,((HC.o.below hb h1) 5 _ rfl).1,(HM.o.below hb h2).k2,((HP.o.below hb h3) 2 _ rfl).1,((HP.o.below hb h3) 3 _ rfl).1,hb⟩))
  go_region_held3 (fun W=>s.K sA sn sk W q/\W.cell? ⟨q+1,5,none⟩=some (.slice A n k)/\xD (O U a) (O U b) W (q+1+1)/\W.cell? ⟨q+1+1+1,2,none⟩=some (O J pf)/\W.cell? ⟨q+1+1+1,3,none⟩=some (O J po)/\Below V.heap.size V W)
   (((refine MK.o _ ?_);(first|(with_reducible exact HBN.o)|(with_reducible exact HBK.o)|(with_reducible exact HBK.o.drew)|(with_reducible exact fh.drew)|(go_grown;done)|(go_grown;with_reducible exact HBN.o)|(go_grown;with_reducible exact HBK.o))))
   (first
    |(go_at_call 277;go_split_ands;(with_reducible refine(HBT.o _ (by assumption)).mono ?_);rintro r wX ⟨⟨z2,rfl⟩,hbX⟩;have HBM:=ze ((‹Below V.heap.size V _›).trans (hbX.mono (‹Below V.heap.size V _›).size));(try clear HBN);have HBN:=ze HBM.o;(try clear hzN);have hzN:=HBN.o.size;clear HBM hbX)
    |(go_at_call 271;go_split_ands;(with_reducible refine(HST.o _).mono ?_);rintro r wX ⟨⟨z3,rfl⟩,hbX⟩;have HBM:=ze ((‹Below V.heap.size V _›).trans (hbX.mono (‹Below V.heap.size V _›).size));(try clear HBN);have HBN:=ze HBM.o;(try clear hzN);have hzN:=HBN.o.size;clear HBM hbX))
  all_goals(
   go_wp2_with fail;go_ret;exact⟨⟨_,rfl⟩,HQ.o▸HBV.o.trans (HBN.o.mono (by omega))⟩))
theorem GK(s:Sc)(hs:s.ok)(sA:Option Addr)(sn sk:Nat)(A:Option Addr)(n k B:Nat)(L:List Ca)(tA:Option Addr)(tk:Nat)(M:List (Int×Int))(pi pt pf po:Int)(w:World)(h:Cas w B s.gap A n L)(hM:Sts w B tA n M)(hB:B<=w.heap.size)(hn:n<=1000)(f0:0<=pf)(f1:pf<=128)(t0:0<=po)(t1:po<=128)(ht:Tab w)(hD:5<w.heap.size):
  Calls prog 223 #[s.v sA sn sk,.slice A n k,.slice tA n tk,.agg #[O J pi,O J pt,O J pf,O J po]] w fun r w'=>(∃m:Int,r=.returned (O J m)/\-1<=m/\m<n+1)/\Below w.heap.size w w':=by
 have g0:=hs.gap.1;have g1:=hs.gap.2;have HB0:=ze (Bs.two w (s.ls sA sn sk) [O J pi,O J pt,O J pf,O J po] 25 117);have HL:=ze h;have HM:=ze hM;have HT:=ze (fun V(hb:Below w.heap.size w V)=>ht.below hb hD);clear h ht hM;go_enter func223,ntmps223;go_wp2_with fail
 go_loopw [9,15] (fun v i wr=>∃(j:Nat)(l:List Int),j<=n/\i=O J j/\l.length=j/\HB.Own wr (w.heap.size+1+1) 3 1 (fa .i64) v l/\Bs w wr [(w.heap.size+1,[O J pi,O J pt,O J pf,O J po]),(w.heap.size,s.ls sA sn sk)]) (fun _ i _=>n-(intOf i).toNat)
 case atStart=>exact⟨0,[],Nat.zero_le _,rfl,rfl,HB.Own.nil _ _ _ _ _,HB0.o⟩
 case round=>
  obtain⟨j,l,hj,rfl,hl,hown,hb⟩:=hrel;have HO:=ze hown;have HB:=ze hb;have HLL:=ze hl;have hz:w.heap.size<wr.heap.size:=hb.lt (q:=w.heap.size) (l:=s.ls sA sn sk) (by simp);have hzp:w.heap.size+1<wr.heap.size:=hb.lt (q:=w.heap.size+1) (l:=[O J pi,O J pt,O J pf,O J po]) (by simp);obtain⟨⟨q0,q1,q2,q3⟩,-⟩:=(HB.o.cell (q:=w.heap.size+1) (l:=[O J pi,O J pt,O J pf,O J po]) (by simp)).o4;obtain⟨⟨s0,s1,s2,s3,s4,s5,s6,s7,s8,s9,s10,s11,s12⟩,-⟩:=(HB.o.cell (q:=w.heap.size) (l:=s.ls sA sn sk) (by simp)).o13;clear hown hb hl;by_cases hlt:j<n
  ·obtain⟨b,off,x,rfl,hbb,hx,hok,hri,c0,c1,c2,c3,c4,c5⟩:=((HL.o.below (HB.o.b.mono hB))).at_ hlt;obtain⟨b2,off2,y,rfl,hbb2,m0,m1⟩:=((HM.o.below (HB.o.b.mono hB))).at_ hlt;obtain⟨y0,y1⟩:=y;have i0:(0:Int)<=(j:Int):=by omega
   have i1:(j:Int)<(n:Int):=by omega
   have hb1:b<wr.heap.size:=by omega
   have hb2:b2<wr.heap.size:=by omega
   have hb3:b2<wr.heap.size+1:=by omega
   have HX:=ze hx;have HC:=ze (fun V(hb:Below w.heap.size w V)=>GJ s hs sA sn sk x.c x.A x.n x.k y0 y1 pi pt pf po V hok.p0 (by have:=hok.p1;omega) f0 f1 t0 t1 (HT.o V hb) (by have:=hb.size;omega));clear hx hok hri;go_wp2_with(first
    |(go_at_call 252;(with_reducible refine(HC.o _ ((HB.o.b.alloc HB.o.b.size _).alloc (by simp;have:=HB.o.b.size;omega) _)).mono ?_);rintro r w1 ⟨⟨z,rfl⟩,hb1⟩;have hwr1:Below wr.heap.size wr w1:=((fh.alloc fi _).alloc (by simp) _).trans (hb1.mono (by simp;omega));have HO1:=ze (HO.o.below hwr1);have HB1:=ze (HB.o.step hwr1);have hz1:=hwr1.size;have hl1:l.length<=1000000000:=(by have:=HLL.o;omega);clear hb1 hwr1 s0 s1 s2 s3 s4 s5 s6 s7 s8 s9 s10 s11 s12 c0 c1 c2 c3 c4 c5 m0 m1 q0 q1 q2 q3)
    |(at_builtin;refine push rfl _ _ 51 rfl underlying51 Ints.info rfl (by omega) (by omega) rfl (HO1.o.alloc _) z ⟨_,0,none⟩ 1 rfl rfl (cell_one_new _ _ _) (by simp[Value.oneCell']) hl1 (by simp;omega) ?_;intro v' w2 hown2 hb2))
   go_roundw
   case rel=>exact⟨j+1,l++[z],by omega,by go_num,by rw[List.length_append,HLL.o];rfl,hown2,(HB1.o.step (fh.alloc fi _)).stepB hb2 (by omega) (by simp<;>omega)⟩
   case measure=>simp[intOf];omega
  ·obtain rfl:j=n:=by omega
   obtain⟨A2,c2,rfl,-,hrd⟩:=HO.o.ints;have hll:l.length<=1000000:=by have:=HLL.o;omega
   have HRD:=ze hrd;clear hrd;go_wp2_with(go_at_call 248;refine(KS A2 l.length c2 _ l _ HRD.o hll).mono ?_;rintro r w3 ⟨⟨z,rfl,hz0,hz1⟩,rfl⟩;have HZR:=ze (show -1<=z/\z<(j:Int)+1 from⟨hz0,by have:=HLL.o;omega⟩);clear hz0 hz1);go_ret;exact⟨⟨_,rfl,HZR.o⟩,HB.o.b⟩
theorem yH(base:Nat)(s:Sc)(hs:s.ok)(sA:Option Addr)(sn sk wb h:Nat)(w:World)(S:HS)(A:Option Addr)(n k:Nat)(tv:Value)(L:List Ca)(trips:List Tr)(T pi pt pf po:Int)
  (H:Wd base s sA sn sk wb h w S (.slice A n k) tv L trips T)(hc:Cas w w.heap.size s.gap A n L)(hn:n<=1000)(f0:0<=pf)(f1:pf<=128)(t0:0<=po)(t1:po<=128)(ht:Tab w)(hD:5<w.heap.size):
  Calls prog 186 #[.pointer (some ⟨wb,0,none⟩),.agg #[O J pi,O J pt,O J pf,O J po]] w fun e w'=>(∃m:Int,e=.returned (O J m)/\(s.disp=4->-1<=m/\m<n+1))/\Below w.heap.size w w':=by
 have hd:=hs.disp;have hwb:wb<w.heap.size:=H.bx.lt (by simp);have HX0:=ze H.bx;have HB0:=ze (Bs.one w [O J pi,O J pt,O J pf,O J po] 117);have HTB:=ze (fun V(hb:Below w.heap.size w V)=>ht.below hb hD);have HH0:=ze (fun V(hb:Below w.heap.size w V)=>(H.below hb).hl);have HL0:=ze (fun V(hb:Below w.heap.size w V)=>hc.below hb);have hf9:s.fl≠0:=by have:=hs.fl;omega
 clear H hc ht;go_enter func186,ntmps186;go_upto_region 1 with(fail);refine j9 (w:=w) (fun W=>Bs w W [(w.heap.size,[O J pi,O J pt,O J pf,O J po])]) HB0.o (by go_grown) (by simp) ?_;rintro V hb hbV hzV;have HP:=ze (hb.cell (q:=w.heap.size) (l:=[O J pi,O J pt,O J pf,O J po]) (by simp));have h0:=hb.lt (q:=w.heap.size) (l:=[O J pi,O J pt,O J pf,O J po]) (by simp);have hwV:wb<V.heap.size:=by omega
 have HXV:=ze (HX0.o.below hbV hwb);have HBV:=ze hbV;have HTV:=ze (fun W(hb:Below V.heap.size V W)=>HTB.o W (hbV.trans (hb.mono hbV.size)));have HHV:=ze (fun W(hb:Below V.heap.size V W)=>HH0.o W (hbV.trans (hb.mono hbV.size)));have HLV:=ze (fun W(hb:Below V.heap.size V W)=>(HL0.o W (hbV.trans (hb.mono hbV.size))).mono (B':=W.heap.size) (by have:=hbV.size;have:=hb.size;omega));have HDV:5<V.heap.size:=by omega
 have HDI:=ze (fun W=>qn pf po W (by omega) (by omega));generalize yw (po-pf)=D at HDI;have HXW:=ze (fun W(hb:Below V.heap.size V W)=>HXV.o.below hb hwV);have HNR:=ze (fun W(hb:Below V.heap.size V W)=>YU s hs sA sn sk A n k W.heap.size L pf D W (HLV.o W hb) fi hn f0 f1);have HSC:=ze (fun W=>VG s.fl s.cars pf W hf9);have HSO:=ze (fun W(hb:Below V.heap.size V W)=>Xw s.gap wb h S A n k W.heap.size L W (((HXW.o W hb) 13 _ rfl).1) (((HXW.o W hb) 14 _ rfl).1) (HHV.o W hb) (HLV.o W hb) fi hn);have HET:=ze (fun W(hb:Below V.heap.size V W) tA tk M(hM:Sts W W.heap.size tA n M)=>WT s hs sA sn sk A n k W.heap.size L tA tk M pf D W (HLV.o W hb) hM fi hn f0 f1 (HTV.o W hb).tz (by have:=hb.size;omega));have HAI:=ze (fun W(hb:Below V.heap.size V W) tA tk M(hM:Sts W W.heap.size tA n M)=>GK s hs sA sn sk A n k W.heap.size L tA tk M pi pt pf po W (HLV.o W hb) hM fi hn f0 f1 t0 t1 (HTV.o W hb) (by have:=hb.size;omega));obtain⟨⟨p0,p1,p2,p3⟩,-⟩:=HP.o.o4;obtain⟨⟨x0,x1,x2,x3,x4,x5,x6,x7,x8,x9,x10,x11,x12,x13,x14,x15,x16⟩,-⟩:=HXV.o.o17;clear HB0 HX0 HTB HH0 HL0 hb hbV;rcases(show s.disp=1\/s.disp=2\/s.disp=3\/s.disp=4 by omega)with hd|hd|hd|hd
 all_goals first
  |((have hd9:s.disp=1:=hd);clear hd9;(have e1:(s.disp==1)=true:=by simpa using hd);(simp only[Sc.v,hd]at HNR);go_upto_region 4 with(first|(go_at_call 188;(with_reducible refine(HDI.o _).mono ?_);rintro r wX ⟨rfl,e⟩;have e':=e.symm;subst e';clear e)))
  |((have hd9:s.disp=2:=hd);clear hd9;(have e1:(s.disp==1)=false:=by simp;omega);(have e2:(s.disp==2)=true:=by simpa using hd);go_upto_region 6 with(first|(go_at_call 188;(with_reducible refine(HDI.o _).mono ?_);rintro r wX ⟨rfl,e⟩;have e':=e.symm;subst e';clear e)))
  |((have hd9:s.disp=3:=hd);clear hd9;(have e1:(s.disp==1)=false:=by simp;omega);(have e2:(s.disp==2)=false:=by simp;omega);(have e3:(s.disp==3)=true:=by simpa using hd);(simp only[Sc.v,hd]at HET);go_upto_region 8 with(first|(go_at_call 188;(with_reducible refine(HDI.o _).mono ?_);rintro r wX ⟨rfl,e⟩;have e':=e.symm;subst e';clear e)))
  |((have hd9:s.disp=4:=hd);clear hd9;(have e1:(s.disp==1)=false:=by simp;omega);(have e2:(s.disp==2)=false:=by simp;omega);(have e3:(s.disp==3)=false:=by simp;omega);(simp only[Sc.v,hd]at HAI);go_upto_region 9 with(first|(go_at_call 188;(with_reducible refine(HDI.o _).mono ?_);rintro r wX ⟨rfl,e⟩;have e':=e.symm;subst e';clear e)))
 all_goals
  clear x0 x1 x2 x3 x4 x5 x6 x7 x8 x9 x10 x11 x12 x13 x14 x15 x16 p0 p1 p2 p3;have MK:=ze (fun W(hb:Below V.heap.size V W)=>(show s.K sA sn sk W wb/\W.cell? ⟨wb,13,none⟩=some (.pointer (some ⟨h,0,none⟩))/\W.cell? ⟨wb,14,none⟩=some (.slice A n k)/\dZ (O J pi) (O J pt) (O J pf) (O J po) W (w.heap.size)/\Below V.heap.size V W from⟨(HXV.o.below hb hwV).k13 rfl,((HXV.o.below hb hwV) 13 _ rfl).1,((HXV.o.below hb hwV) 14 _ rfl).1,(HP.o.below hb h0).k4,hb⟩))
  go_region_held3 (fun W=>s.K sA sn sk W wb/\W.cell? ⟨wb,13,none⟩=some (.pointer (some ⟨h,0,none⟩))/\W.cell? ⟨wb,14,none⟩=some (.slice A n k)/\dZ (O J pi) (O J pt) (O J pf) (O J po) W (w.heap.size)/\Below V.heap.size V W)
   (((refine MK.o _ ?_);(first|(with_reducible exact HBN.o)|(with_reducible exact fh.drew)|(go_grown;done)|(go_grown;with_reducible exact HBN.o))))
   (first
    |(go_at_call 219;go_split_ands;(with_reducible refine(HNR.o _ (by assumption)).mono ?_);rintro r wX ⟨⟨m,rfl⟩,hbX⟩;have HBM:=ze ((‹Below V.heap.size V _›).trans (hbX.mono (‹Below V.heap.size V _›).size));(try clear HBN);have HBN:=ze HBM.o;(try clear hzN);have hzN:=HBN.o.size;clear HBM hbX;have HM4:=ze (show s.disp=4->-1<=m/\m<(n:Int)+1 from fun e=>absurd e (by omega)))
    |(go_at_call 220;go_split_ands;(with_reducible refine(HSC.o _).mono ?_);rintro r wX ⟨⟨m,rfl⟩,hbX⟩;have HBM:=ze ((‹Below V.heap.size V _›).trans (hbX.mono (‹Below V.heap.size V _›).size));(try clear HBN);have HBN:=ze HBM.o;(try clear hzN);have hzN:=HBN.o.size;clear HBM hbX;have HM4:=ze (show s.disp=4->-1<=m/\m<(n:Int)+1 from fun e=>absurd e (by omega)))
    |(go_at_call 222;go_split_ands;(with_reducible refine(HSO.o _ (by assumption)).mono ?_);rintro r wX ⟨v,M,rfl,hown,hML,hbX⟩;obtain⟨tA,tk,rfl⟩:∃ tA tk,v=.slice tA n tk:=(by obtain⟨tA,tn,tk,e,htn,-⟩:=hown.slice;exact⟨tA,tk,by rw[e,htn,hML]⟩);have HSS:=ze (show Sts wX wX.heap.size tA n M from(by have hrw:=hown.row;rw[hML]at hrw;exact⟨Rd.own hrw,hML⟩));clear hown hML;have HBM:=ze ((‹Below V.heap.size V _›).trans (hbX.mono (‹Below V.heap.size V _›).size));(try clear HBN);have HBN:=ze HBM.o;(try clear hzN);have hzN:=HBN.o.size;clear HBM hbX)
    |(go_at_call 221;go_split_ands;(with_reducible refine(HET.o _ (by assumption) _ _ _ HSS.o).mono ?_);rintro r wX ⟨⟨m,rfl⟩,hbX⟩;have HBM:=ze ((‹Below V.heap.size V _›).trans (hbX.mono (‹Below V.heap.size V _›).size));(try clear HBN);have HBN:=ze HBM.o;(try clear hzN);have hzN:=HBN.o.size;clear HBM hbX;have HM4:=ze (show s.disp=4->-1<=m/\m<(n:Int)+1 from fun e=>absurd e (by omega)))
    |(go_at_call 223;go_split_ands;(with_reducible refine(HAI.o _ (by assumption) _ _ _ HSS.o).mono ?_);rintro r wX ⟨⟨m,rfl,hm0,hm1⟩,hbX⟩;have HBM:=ze ((‹Below V.heap.size V _›).trans (hbX.mono (‹Below V.heap.size V _›).size));(try clear HBN);have HBN:=ze HBM.o;(try clear hzN);have hzN:=HBN.o.size;clear HBM hbX;have HM4:=ze (show s.disp=4->-1<=m/\m<(n:Int)+1 from fun _=>⟨hm0,hm1⟩);clear hm0 hm1))
  all_goals(
   go_wp2_with fail;go_ret;exact⟨⟨_,rfl,HM4.o⟩,HBV.o.trans (HBN.o.mono (by omega))⟩)
section
variable{base:Nat}{s:Sc}{sA:Option Addr}{sn sk wb h:Nat}{w V w':World}{S S':HS}{cv cv' tv tv':Value}{L L':List Ca}{trips trips':List Tr}{T T':Int}
theorem Wd.trips_(H:Wd base s sA sn sk wb h w S cv tv L trips T)(hb:Below w.heap.size w V)(ho:HB.Own w' base 87 7 kN tv' trips')(hx:Bx w' wb (d6 s sA sn sk h cv tv' T))(hbut:But (fun p=>p=wb\/tv.ownBlock=some p) V w')
  (hnew:∀ p,tv'.ownBlock=some p->tv.ownBlock=some p\/V.heap.size<=p):WdN base s sA sn sk wb h w S cv tv L w' S cv tv' L trips' T:=by
 have hbt:But (fun p=>p=wb\/tv.ownBlock=some p) w w':=(But.of_below hb).trans hbut (fun _ _ h=>h);have hz:=hb.size;have hwb:=H.bx.lt (by simp);have hX:∀ k,k<w.heap.size->Wx wb h S cv tv' k->Wx wb h S cv tv k:=fun k hk hx=>by
  rcases hx with hx|hx|hx|hx
  ·exact .inl hx
  ·exact .inr (.inl hx)
  ·exact .inr (.inr (.inl hx))
  ·rcases hnew k hx with h1|h1
   ·exact .inr (.inr (.inr h1))
   ·omega
 refine⟨⟨hx,H.wl,H.hl.but hbt (fun k hk e=>e.elim (fun e=>H.s1 (e▸hk)) (fun e=>(H.s3 k e).2 hk)),H.hb,H.cr.but hbt (fun p hp e=>e.elim (H.s2 p hp).1 (H.s2 p hp).2.2),fun z hz'=>⟨HB.Rds.but (H.ri z hz').1 hbt (fun b off e hx=>(H.s4 b ⟨z,hz',off,e⟩).2.2 (hx.elim .inl (fun h=>.inr (.inr (.inr h))))),(H.ri z hz').2⟩,ho,H.s1,fun p hp=>⟨(H.s2 p hp).1,(H.s2 p hp).2.1,fun e=>?_⟩,fun p hp=>?_,fun k hk=>⟨(H.s4 k hk).1,Nat.lt_of_lt_of_le (H.s4 k hk).2.1 hbt.size,fun hx=>(H.s4 k hk).2.2 (hX k (H.s4 k hk).2.1 hx)⟩⟩,hbt.mono (fun k _ hx=>hx.elim .inl (fun h=>.inr (.inr (.inr h)))),hX,fun k _ h=>h⟩
 ·rcases hnew p e with h1|h1
  ·exact(H.s2 p hp).2.2 h1
  ·have:=(H.cr.lt hp).2;omega
 ·rcases hnew p hp with h1|h1
  ·exact H.s3 p h1
  ·exact⟨by omega,fun hx=>by have:=H.hl.xlt hx;omega⟩
theorem Wd.hall(H:Wd base s sA sn sk wb h w S cv tv L trips T)(hn:HNext w h S w' S'):WdN base s sA sn sk wb h w S cv tv L w' S' cv tv L trips T:=by
 have hb:=hn.but;have hwb:=H.bx.lt (by simp);have hwl:=H.wl;have hX:∀ k,k<w.heap.size->Wx wb h S' cv tv k->Wx wb h S cv tv k:=fun k hk hx=>by
  rcases hx with hx|hx|hx
  ·exact .inl hx
  ·exact .inr (.inl (hn.x k hk hx))
  ·exact .inr (.inr hx)
 refine⟨⟨H.bx.but hb hwb H.s1,H.wl,hn.hl,fun k hk=>?_,H.cr.but hb (fun p hp=>(H.s2 p hp).2.1),fun z hz'=>⟨HB.Rds.but (H.ri z hz').1 hb (fun b off e hx=>(H.s4 b ⟨z,hz',off,e⟩).2.2 (.inr (.inl hx))),(H.ri z hz').2⟩,H.tr.but hb (fun p hp=>(H.s3 p hp).2),fun hx=>H.s1 (hn.x wb hwb hx),fun p hp=>⟨(H.s2 p hp).1,fun hx=>(H.s2 p hp).2.1 (hn.x p (H.cr.lt hp).2 hx),(H.s2 p hp).2.2⟩,fun p hp=>⟨(H.s3 p hp).1,fun hx=>(H.s3 p hp).2 (hn.x p (H.tr.lt hp).2 hx)⟩,fun k hk=>⟨(H.s4 k hk).1,Nat.lt_of_lt_of_le (H.s4 k hk).2.1 hb.size,fun hx=>(H.s4 k hk).2.2 (hX k (H.s4 k hk).2.1 hx)⟩⟩,hb.mono (fun k _ hx=>.inr (.inl hx)),hX,fun k _ h=>h⟩;rcases Nat.lt_or_ge k w.heap.size with h1|h1
 ·exact H.hb k (hn.x k h1 hk)
 ·omega
theorem Wd.bs(H:Wd base s sA sn sk wb h w S cv tv L trips T):base<=w.heap.size:=by
 have:=H.wl;have:=H.bx.lt (by simp);omega
theorem WdN.bel(H:Wd base s sA sn sk wb h w S cv tv L trips T)(hn:WdN base s sA sn sk wb h w S cv tv L w' S' cv' tv' L' trips' T'):Below base w w':=
 hn.but.below (fun k hk=>(H.xlt hk).1) H.bs
theorem Wd.cas{A:Option Addr}{n k:Nat}{g:Int}(H:Wd base s sA sn sk wb h w S (.slice A n k) tv L trips T)(hok:∀ x∈L,x.ok g):Cas w w.heap.size g A n L:=by
 obtain⟨A',c',e,h1,h2⟩:=H.cr.shape;simp only[Value.slice.injEq]at e;obtain⟨rfl,rfl,rfl⟩:=e;exact⟨h2,rfl,fun x hx=>(H.ri x hx).1,hok⟩
end
def er(base:Nat)(s:Sc)(sA:Option Addr)(sn sk wb h:Nat)(w:World)(S:HS)(A:Option Addr)(n k:Nat)(tv:Value)(L:List Ca)(trips:List Tr)(T pi pt pf po:Int)(e:Ending)(w':World):Prop:=
 e=.returned (.tuple #[])/\∃(S':HS)(tv':Value)(key:HK)(x:Wt),WdN base s sA sn sk wb h w S (.slice A n k) tv L w' S' (.slice A n k) tv' L (trips++[⟨pi,pt,pf,po,-1,-1,-1⟩]) T/\x.id=pi/\S'.L=qf S.L key (S.L key++[x])/\S'.nw<=S.nw+1/\S'.nc<=S.nc+1
theorem Xy(base:Nat)(s:Sc)(hs:s.ok)(sA:Option Addr)(sn sk wb h:Nat)(w:World)(S:HS)(A:Option Addr)(n k:Nat)(tv:Value)(L:List Ca)(trips:List Tr)(T pi pt pf po:Int)
  (H:Wd base s sA sn sk wb h w S (.slice A n k) tv L trips T)(hok:∀ x∈L,x.ok s.gap)(hn:n<=1000)(f0:0<=pf)(f1:pf<=128)(t0:0<=po)(t1:po<=128)(ht:Tab w)(hD:5<base)(hl:trips.length<=1000000)(hnw:S.nw<=1000000)(hnc:S.nc<=1000000)(hlen:∀ k,(S.L k).length<=1000000):
  Calls prog 142 #[.pointer (some ⟨wb,0,none⟩),.agg #[O J pi,O J pt,O J pf,O J po]] w (er base s sA sn sk wb h w S A n k tv L trips T pi pt pf po):=by
 have hwb:wb<w.heap.size:=H.bx.lt (by simp);have HX0:=ze H.bx;have HB0:=ze (Bs.one w [O J pi,O J pt,O J pf,O J po] 117);have HO0:=ze (fun V(hb:Below w.heap.size w V)=>(H.below hb).tr);have HT1:=ze (fun p hp=>(H.s3 p hp).1);have HTL:=ze hl;have hbs:=H.bs;have HBB:=ze hbs;have HH:=ze H;have HOK:=ze hok;have HTAB:=ze ht;have HLEN:=ze hlen;clear H hok ht hl hlen;go_enter func142,ntmps142;go_upto_region 1 with(fail);refine j9 (w:=w) (fun W=>Bs w W [(w.heap.size,[O J pi,O J pt,O J pf,O J po])]) HB0.o (by go_grown) (by simp) ?_;rintro V hb hbV hzV;have HP:=ze (hb.cell (q:=w.heap.size) (l:=[O J pi,O J pt,O J pf,O J po]) (by simp));have h0:=hb.lt (q:=w.heap.size) (l:=[O J pi,O J pt,O J pf,O J po]) (by simp);have hwV:wb<V.heap.size:=by omega
 have hbV1:base<=V.heap.size:=by have:=HBB.o;omega
 have HXV:=ze (HX0.o.below hbV hwb);have HBV:=ze hbV;have HOV:=ze (HO0.o V hbV);have HOVL:=ze (fun p hp=>(HO0.o w fh).lt (k:=p) hp);have HTB:=ze (fun W=>VH pi pt pf po W);obtain⟨⟨p0,p1,p2,p3⟩,-⟩:=HP.o.o4;have HX16:=ze HXV.o;obtain⟨⟨-,-,-,-,-,-,-,-,-,-,-,-,-,-,-,x15,-⟩,-,-,-,-,-,-,-,-,-,-,-,-,-,-,-,y15,-⟩:=HXV.o.o17;clear HB0 HX0 HO0 hb hbV hzV;have HNX:=ze (show¬(w.heap.size=wb\/tv.ownBlock=some w.heap.size)from fun hx=>by rcases hx with e|e;omega;have:=HOVL.o w.heap.size e;omega)
 go_cut [] (fun wx=>∃ tv',HB.Own wx base 87 7 kN tv' (trips++[(⟨pi,pt,pf,po,-1,-1,-1⟩:Tr)])/\Bx wx wb (d6 s sA sn sk h (.slice A n k) tv' T)/\But (fun p=>p=wb\/tv.ownBlock=some p) V wx/\(∀p,tv'.ownBlock=some p->tv.ownBlock=some p\/V.heap.size<=p))
 case first=>
  have MK:=ze (fun W(hb:But (fun p=>p=wb\/tv.ownBlock=some p) V W)=>(show dZ (O J pi) (O J pt) (O J pf) (O J po) W (w.heap.size)/\But (fun p=>p=wb\/tv.ownBlock=some p) V W from⟨(HP.o.but hb h0 HNX.o).k4,hb⟩));have HD0:=ze (But.of_below (X:=(fun p=>p=wb\/tv.ownBlock=some p)) (Below.refl V.heap.size V).drew)
  go_region_law (first
    |(go_simp;go_at_call 185;(with_reducible refine(HTB.o _).mono ?_);rintro r wX ⟨rfl,hbX⟩;have HBN:=ze (show Below V.heap.size V wX from(Below.refl V.heap.size V).drew.trans hbX);have hzN:=HBN.o.size;have HBC:=ze (But.of_below (X:=(fun p=>p=wb\/tv.ownBlock=some p)) HBN.o);have HBA:=ze (But.of_below (X:=(fun p=>p=wb\/tv.ownBlock=some p)) (HBN.o.alloc hzN (.cells #[O J pi,O J pt,O J pf,O J po,O J (-1),O J (-1),O J (-1)] 87)));have dX:=ze (HXV.o.below HBN.o hwV);have HOX:=ze (HOV.o.below HBN.o);clear hbX;obtain⟨⟨-,-,-,-,-,-,-,-,-,-,-,-,-,-,-,d15,-⟩,-,-,-,-,-,-,-,-,-,-,-,-,-,-,-,g15,-⟩:=dX.o.o17;have d15a:(wX.alloc (.cells #[O J pi,O J pt,O J pf,O J po,O J (-1),O J (-1),O J (-1)] 87)).cell? ⟨wb,15,none⟩=some tv:=zf ((Below.refl wX.heap.size wX).alloc fi _) d15;have n15:=World.new_ne wX _ d15)
    |(refine jn (P:=prog) rfl _ _ 39 rfl underlying39 Trip.info rfl (by omega) (by omega) rfl (HOX.o.alloc _) (⟨pi,pt,pf,po,-1,-1,-1⟩:Tr) ⟨_,0,none⟩ 1 rfl rfl (zr _ _ (kN (⟨pi,pt,pf,po,-1,-1,-1⟩:Tr)) _ rfl) (JP _) (Nat.le_trans HTL.o (by omega)) (by simp;omega) ?_;intro v7 w7 k1 k2 k3;obtain⟨A7,n7,k7,rfl,hn7,hnk7⟩:=HB.Own.slice k1;have hn8:n7=trips.length+1:=(by simpa using hn7);clear hn7;subst hn8;have hA:=HBN.o.alloc hzN (.cells #[O J pi,O J pt,O J pf,O J po,O J (-1),O J (-1),O J (-1)] 87);have HBK:=ze ((But.of_below (X:=fun p=>p=wb\/tv.ownBlock=some p) hA).grown k2 (fun p hp _=>.inr hp));have HBS:=ze (fun u=>HBK.o.at1 (q:=wb) (.inl rfl) 15 u);have HO7:=ze k1;have HV7:=ze (fun p(hp:(Value.slice A7 (trips.length+1) k7).ownBlock=some p)=>(show tv.ownBlock=some p\/V.heap.size<=p from by rcases k3 with e|e;exact .inl (e▸hp);rw[e]at hp;cases hp;exact .inr (by simp;omega)));have HX7:=ze ((HXV.o.below hA hwV).but (But.of_grown (X:=fun p=>tv.ownBlock=some p) k2 (fun p hp=>hp)) (by have:=hA.size;omega) (fun hx=>HT1.o wb hx rfl));clear k1 k2 k3 hA;obtain⟨⟨-,-,-,-,-,-,-,-,-,-,-,-,-,-,-,d7,-⟩,-,-,-,-,-,-,-,-,-,-,-,-,-,-,-,g7,-⟩:=HX7.o.o17))
  all_goals(
   go_wp2_with fail
   go_meet
   exact⟨.slice A7 (trips.length+1) k7,HO7.o.but ((But.refl (fun q=>q=wb) w7).at1 rfl _ _) (fun p hp e=>by have h1:=HV7.o p hp;rcases h1 with h1|h1;exact HT1.o p h1 e;omega),HX7.o.set 15 (.slice A7 (trips.length+1) k7),HBK.o.at1 (.inl rfl) _ _,HV7.o⟩)
 case rest=>
 obtain⟨tv2,ho2,hx2,hb2,hn2⟩:=hcut;obtain⟨W2,hW2⟩:∃ W2,W2=wc:=⟨_,rfl⟩;subst hW2;have HN2:=ze (Wd.trips_ HH.o HBV.o ho2 hx2 hb2 hn2);have HP2:=ze (HP.o.but hb2 h0 HNX.o);have hz2:=hb2.size;clear ho2 hx2 hb2 hn2 HX16 x15 y15 p0 p1 p2 p3 HXV HOV HTB HP HBV HNX HOVL;obtain⟨⟨p0,p1,p2,p3⟩,-⟩:=HP2.o.o4;obtain⟨⟨-,-,-,-,-,-,-,-,-,x9,-,-,-,x13,-,-,-⟩,-⟩:=HN2.o.wd.bx.o17;have hq2:w.heap.size<W2.heap.size:=by omega
 have hwb2:wb<W2.heap.size:=by omega
 have HCH:=ze (fun W(hb:Below W2.heap.size W2 W)=>yH base s hs sA sn sk wb h W S A n k tv2 L (trips++[(⟨pi,pt,pf,po,-1,-1,-1⟩:Tr)]) T pi pt pf po (HN2.o.wd.below hb) ((HN2.o.wd.below hb).cas HOK.o) hn f0 f1 t0 t1 ((HTAB.o.below (HN2.o.bel HH.o) hD).below hb (by have:=HN2.o.wd.bs;omega)) (by have:=HN2.o.wd.bs;have:=hb.size;omega));have hwf:∀ z:Int,-1000000000<=z->z<=1000000000->jX z:=fun z h1 h2=>zQ h1 h2
 have HWF:=ze hwf;clear hwf;by_cases hd:s.disp=4
 ·have d4:(s.disp==4)=true:=by simpa using hd
  have HD:=ze hd;clear hd;go_upto_region 4 with(fail);refine zq (w:=W2) (fun W=>Bx W W2.heap.size [O J pi,O J pf,O J po,O J (-1)]/\W2.heap.size<W.heap.size) ⟨Bx.new W2 [O J pi,O J pf,O J po,O J (-1)] 318,by simp⟩ ((Below.refl W2.heap.size W2).alloc fi _) ?_;rintro W3 ⟨hq3,hz3⟩ hb3;have HQ3:=ze hq3;have HB3:=ze hb3;clear p0 p1 p2 p3 x9 x13 hq3 hb3;obtain⟨⟨p0,p1,p2,p3⟩,-⟩:=(HP2.o.below HB3.o hq2).o4;go_upto_region 5 with(go_at_call 186;(with_reducible refine(HCH.o _ HB3.o).mono ?_);rintro r w5 ⟨⟨mm,rfl,hmm⟩,hb5⟩;have HMM:=ze (hmm HD.o);have HB5:=ze (HB3.o.trans (hb5.mono (by omega)));have HQ5:=ze (HQ3.o.below hb5 hz3);have hz5:=hb5.size;clear hmm hb5 p0 p1 p2 p3;obtain⟨⟨-,-,-,z3⟩,-,-,-,k3⟩:=HQ5.o.o4);refine zq (w:=W2) (fun W=>Bx W W2.heap.size [O J pi,O J pf,O J po,O J mm]/\W2.heap.size<W.heap.size) ⟨HQ5.o.set 3 _,by simp;omega⟩ (HB5.o.setCell (p:=⟨W2.heap.size,3,none⟩) fi _) ?_;rintro W6 ⟨hq6,hz6⟩ hb6;have HQ6:=ze hq6;have HB6:=ze hb6;clear z3 k3 hq6 hb6 HQ5 HB5 hz5 HQ3 HB3 HCH;have hN6:=HN2.o.below HB6.o;have HN6:=ze hN6;have HM0:=HMM.o.1;have HM1:=HMM.o.2;have HCM:=ze (fun W(hb:Below W6.heap.size W6 W)=>Ju h S ⟨pi,pf,po,mm⟩ W (HN6.o.wd.hl.below hb) (by show(-1000000:Int)<=pf;omega) (by show pf<=(1000000:Int);omega) (by show(-1000000:Int)<=po;omega) (by show po<=(1000000:Int);omega) (by show(-1000000000:Int)<=mm;omega) (by show mm<=(1000000000:Int);omega) hnw HLEN.o);obtain⟨⟨-,-,-,-,-,-,-,-,-,-,-,-,-,x13,-,-,-⟩,-⟩:=HN6.o.wd.bx.o17;obtain⟨⟨z0,z1,z2,z3⟩,-⟩:=HQ6.o.o4;clear hN6
  go_region_with (go_at_call 187;(with_reducible refine(HCM.o _ fh.drew).mono ?_);rintro r w7 ⟨rfl,S',hN,hL,hw1,hc1⟩;have HN:=ze hN;have HL:=ze hL;clear hN hL z0 z1 z2 z3 x13)
  all_goals(
   go_wp2_with fail;go_end0;have h9:=(HN6.o.below fh.drew);exact⟨rfl,S',tv2,_,⟨pi,pf,po,mm⟩,h9.trans (Wd.hall h9.wd HN.o),rfl,HL.o,hw1,by omega⟩)
 ·have d4:(s.disp==4)=false:=by simpa using hd
  clear hd;go_upto_region 6 with(fail);refine zq (w:=W2) (fun W=>Bx W W2.heap.size [O J pi,O J pf,O J po,O J (-1)]/\W2.heap.size<W.heap.size) ⟨Bx.new W2 [O J pi,O J pf,O J po,O J (-1)] 318,by simp⟩ ((Below.refl W2.heap.size W2).alloc fi _) ?_;rintro W3 ⟨hq3,hz3⟩ hb3;have HQ3:=ze hq3;have HB3:=ze hb3;have HN3:=ze (HN2.o.below hb3);have HP3:=ze (HP2.o.below hb3 hq2);have hq3:w.heap.size<W3.heap.size:=by omega
  have hwb3:wb<W3.heap.size:=by omega
  have HCM:=ze (fun W(hb:Below W3.heap.size W3 W)=>Ju h S ⟨pi,pf,po,-1⟩ W (HN3.o.wd.hl.below hb) (by show(-1000000:Int)<=pf;omega) (by show pf<=(1000000:Int);omega) (by show(-1000000:Int)<=po;omega) (by show po<=(1000000:Int);omega) (show(-1000000000:Int)<=-1 by decide) (show(-1:Int)<=1000000000 by decide) hnw HLEN.o);clear p0 p1 p2 p3 x9 x13 hb3 HCH;obtain⟨⟨-,-,-,-,-,-,-,-,-,-,-,-,-,x13,-,-,-⟩,-⟩:=HN3.o.wd.bx.o17;obtain⟨⟨z0,z1,z2,z3⟩,-⟩:=HQ3.o.o4;have HXW:=ze (fun k(hx:Xh S h k)=>HN3.o.wd.hl.xlt hx);have HXQ:=ze (show¬Xh S h w.heap.size from fun hx=>by have:=HH.o.hl.xlt hx;omega)
  go_cut [] (fun wx=>∃ S',HNext W3.drew h S wx S'/\S'.L=qf S.L (pf,yw (po-pf),-1) (S.L (pf,yw (po-pf),-1)++[⟨pi,pf,po,-1⟩])/\S'.nw<=S.nw+1/\S'.nc=S.nc)
  case first=>
   go_region_with (go_at_call 187;(with_reducible refine(HCM.o _ fh.drew).mono ?_);rintro r w7 ⟨rfl,S',hN,hL,hw1,hc1⟩;have HN:=ze hN;have HL:=ze hL;clear hN hL z0 z1 z2 z3 x13)
   all_goals(
    go_wp2_with fail
    go_meet
    exact⟨S',HN.o,HL.o,hw1,hc1⟩)
  case rest=>
  obtain⟨S1,hN,hL,hw1,hc1⟩:=hcut;obtain⟨W4,hW4⟩:∃ W4,W4=wc:=⟨_,rfl⟩;subst hW4;clear z0 z1 z2 z3 x13 HCM HXW;have h9:=(HN3.o.below fh.drew);have HN4:=ze (h9.trans (Wd.hall h9.wd hN));have HP4:=ze ((HP3.o.drew).but hN.but hq3 HXQ.o);have hz4:=hN.but.size;have HL4:=ze hL;have hc2:S1.nc<=1000000:=by omega
  have hq4:w.heap.size<W4.heap.size:=by simp at hz4;omega
  have hsg:=ZX (po-pf);have hsg0: -1<=yw (po-pf):=by omega
  have hsg1:yw (po-pf)<=1:=by omega
  have HDIR:=ze (fun W=>qn pf po W (by omega) (by omega));have HCL:=ze (fun W(hb:Below W4.heap.size W4 W)=>YP h S1 pf (yw (po-pf)) W (HN4.o.wd.hl.below hb) ⟨HWF.o _ (by show(-1000000000:Int)<=pf;omega) (by show pf<=(1000000000:Int);omega),HWF.o _ (by show(-1000000000:Int)<=yw (po-pf);omega) (by show yw (po-pf)<=(1000000000:Int);omega)⟩);generalize yw (po-pf)=dd at*;clear h9 hN hL hsg;obtain⟨⟨p0,p1,p2,p3⟩,-⟩:=HP4.o.o4;obtain⟨⟨-,-,-,-,-,-,-,-,-,-,-,-,-,x13,-,-,-⟩,-⟩:=HN4.o.wd.bx.o17;go_upto_region 8 with(go_at_call 188;(with_reducible refine(HDIR.o _).mono ?_);rintro r w8 ⟨rfl,e8⟩;have e9:=e8.symm;clear e8;subst e9)
  go_cut [6,7] (fun u v wx=>∃(z:Int)(ok:Bool),u=O J z/\v=.bool ok/\Below W4.heap.size W4 wx)
  case first=>
   go_region_with (go_at_call 189;(with_reducible refine(HCL.o _ fh.drew).mono ?_);rintro r w9 ⟨⟨z,ok,rfl⟩,hb9⟩;have HB9:=ze (show Below W4.heap.size W4 w9 from(Below.refl W4.heap.size W4).drew.trans hb9);clear hb9)
   all_goals(
    go_wp2_with fail
    go_meet
    exact⟨z,ok,rfl,rfl,HB9.o⟩)
  case rest=>
  obtain⟨z,ok,rfl,rfl,hb5⟩:=hcut;obtain⟨W5,hW5⟩:∃ W5,W5=wc:=⟨_,rfl⟩;subst hW5;have HN5:=ze (HN4.o.below hb5);have HP5:=ze (HP4.o.below hb5 hq4);have hz5:=hb5.size;clear hb5 p0 p1 p2 p3 x13 HCL HDIR;cases ok with
  |true=>
   go_wp2_with fail;go_end0;exact⟨rfl,S1,tv2,_,_,HN5.o,rfl,HL4.o,hw1,by omega⟩
  |false=>
   have HCH:=ze (fun W(hb:Below W5.heap.size W5 W)=>yH base s hs sA sn sk wb h W S1 A n k tv2 L (trips++[(⟨pi,pt,pf,po,-1,-1,-1⟩:Tr)]) T pi pt pf po (HN5.o.wd.below hb) ((HN5.o.wd.below hb).cas HOK.o) hn f0 f1 t0 t1 ((HTAB.o.below (HN5.o.bel HH.o) hD).below hb (by have:=HN5.o.wd.bs;omega)) (by have:=HN5.o.wd.bs;have:=hb.size;omega));have HSD:=ze (fun c W(hb:Below W5.heap.size W5 W)=>YQ h S1 pf dd c W (HN5.o.wd.hl.below hb) ⟨HWF.o _ (by show(-1000000000:Int)<=pf;omega) (by show pf<=(1000000000:Int);omega),HWF.o _ (by show(-1000000000:Int)<=dd;omega) (by show dd<=(1000000000:Int);omega)⟩ hc2);have hc3:S1.nc+1<=S.nc+1:=by omega
   have HC3:=ze hc3;obtain⟨⟨p0,p1,p2,p3⟩,-⟩:=HP5.o.o4;obtain⟨⟨-,-,-,-,-,-,-,-,-,-,-,-,-,x13,-,-,-⟩,-⟩:=HN5.o.wd.bx.o17;clear hc1 hc3;go_upto_region 10 with(fail)
   go_region_with (first
    |(go_at_call 186;(with_reducible refine(HCH.o _ fh.drew).mono ?_);rintro r w6 ⟨⟨mm,rfl,-⟩,hb6⟩;have HB6:=ze (show Below W5.heap.size W5 w6 from(Below.refl W5.heap.size W5).drew.trans hb6);have p2b:=zf HB6.o p2;have x13b:=zf HB6.o x13;clear hb6)
    |(go_at_call 190;(with_reducible refine(HSD.o mm _ HB6.o).mono ?_);rintro r w7 ⟨⟨bb,rfl⟩,mc,nc',fc,hN,hc9⟩;have HN7:=ze hN;have HC9:=ze hc9;clear hN hc9))
   all_goals(
    go_wp2_with fail;go_end0;have h9:=HN5.o.below HB6.o;exact⟨rfl,S1.calls mc nc' fc,tv2,_,_,h9.trans (Wd.hall h9.wd HN7.o),rfl,HL4.o,hw1,Nat.le_trans HC9.o HC3.o⟩)
end
end Go.Proofs.YtdeogmbfgkepeaaGreatDoor
