/- Contracts for WholeDelivers. -/
import Derived.Test.YtdeogmbfgkepeaaGreatDoorR34
import Derived.Test.YtdeogmbfgkepeaaGreatDoorR41
import Derived.Test.YtdeogmbfgkepeaaGreatDoorR43
set_option linter.unusedVariables false
set_option linter.unusedSimpArgs false
set_option maxRecDepth 100000
set_option maxHeartbeats 64000000
namespace Go.Proofs.YtdeogmbfgkepeaaGreatDoor
open Go.Proofs.Tryz
open Go.Value renaming int->O
open Go.IntKind renaming i64->J,u64->U
section
open Go.RowKit HB Go.Maps CalP
theorem Xx(a b:Int)(w:l6)(h: -1000000000<=b-a)(h1:b-a<=1000000000):Calls prog 188 #[O J a,O J b] w (fk (O J (yw (b-a))) w):=
 (qn a b w h h1).mono fun e w'⟨h1,h2⟩=>⟨h1,h2▸fh⟩
theorem GJ(s:Sc)(hs:s.ok)(sA:iX)(sn sk:Nat)(cr:Cr)(A:iX)(n k:Nat)(a b pi pt pf po:Int)(w:l6)(c0:0<=cr.pos)(c1:cr.pos<=10000)(f0:0<=pf)(f1:pf<=128)(t0:0<=po)(t1:po<=128)(ht:Tab w)(hD:5<w.heap.size):
  Calls prog 252 #[s.v sA sn sk,cr.v A n k,zy a b,.agg #[O J pi,O J pt,O J pf,O J po]] w fun e w'=>RI e/\Below w.heap.size w w':=by
 have hd:=ze (Bs.four w (s.ls sA sn sk) (cr.ls A n k) [O U a,O U b] [O J pi,O J pt,O J pf,O J po] 25 265 325 117);have hi:=ze (fun V(hb:Below w.heap.size w V)=>ht.below hb hD);clear ht
 go_in
 go_upto_region 1 with(fail);refine j9 (w:=w) (fun W=>Bs w W [(w.heap.size+1+1+1,[O J pi,O J pt,O J pf,O J po]),(w.heap.size+1+1,[O U a,O U b]),(w.heap.size+1,cr.ls A n k),(w.heap.size,s.ls sA sn sk)]) hd.o (by go_grown) (by simp;omega) ?_;rintro V hb ha hu;have HS:=ze (hb.cell (q:=w.heap.size) (l:=s.ls sA sn sk) (by simp));have HC:=ze (hb.cell (q:=w.heap.size+1) (l:=cr.ls A n k) (by simp));have HM:=ze (hb.cell (q:=w.heap.size+1+1) (l:=[O U a,O U b]) (by simp));have HP:=ze (hb.cell (q:=w.heap.size+1+1+1) (l:=[O J pi,O J pt,O J pf,O J po]) (by simp));have h0:=hb.lt (q:=w.heap.size) (l:=s.ls sA sn sk) (by simp);have h1:=hb.lt (q:=w.heap.size+1) (l:=cr.ls A n k) (by simp);have h2:=hb.lt (q:=w.heap.size+1+1) (l:=[O U a,O U b]) (by simp);have h3:=hb.lt (q:=w.heap.size+1+1+1) (l:=[O J pi,O J pt,O J pf,O J po]) (by simp);have hm:=ze ha;have hw:=ha.size;have hj:=ze (fun W(hb:Below V.heap.size V W)=>hi.o W (ha.trans (hb.mono ha.size)));have hv:5<V.heap.size:=by omega
 clear hd hi hb ha hu;generalize hq:w.heap.size=q at*;have HQ:=ze hq;clear hq;have hg:=ze (fun W=>uC s sA sn sk 1 W);have hc:=ze (fun W=>Xx pf po W (by omega) (by omega));generalize yw (po-pf)=D at hc;have hf:=ze (fun W(hb:Below V.heap.size V W)=>WS s hs sA sn sk cr A n k a b pf D W c0 c1 f0 f1 (hj.o W hb).tz (by have:=hb.size;omega));have hp:=ze (fun x W=>ki a b x W);have hl:=ze (fun W(hb:Below V.heap.size V W)=>Qv a b pf po W (hj.o W hb) (by have:=hb.size;omega))
 go_cut [9] (fun v wx=>∃ z:Int,v=O J z/\Below V.heap.size V wx)
 case first=>
  have MK:=ze (fun W(hb:Below V.heap.size V W)=>(show s.K sA sn sk W q/\cr.K A n k W (q+1)/\xD (O U a) (O U b) W (q+1+1)/\W.cell? ⟨q+1+1+1,2,none⟩=some (O J pf)/\W.cell? ⟨q+1+1+1,3,none⟩=some (O J po)/\Below V.heap.size V W from⟨(HS.o.below hb h0).k13 rfl,(HC.o.below hb h1).k6 rfl,(HM.o.below hb h2).k2,((HP.o.below hb h3) 2 _ rfl).1,((HP.o.below hb h3) 3 _ rfl).1,hb⟩))
  go_region_held3 (fun W=>s.K sA sn sk W q/\cr.K A n k W (q+1)/\xD (O U a) (O U b) W (q+1+1)/\W.cell? ⟨q+1+1+1,2,none⟩=some (O J pf)/\W.cell? ⟨q+1+1+1,3,none⟩=some (O J po)/\Below V.heap.size V W)
   (((refine MK.o _ ?_);(first|(with_reducible exact h6.o)|(with_reducible exact fh.drew)|(go_grown;done)|(go_grown;with_reducible exact h6.o))))
   (first
    |(go_at_call 188;go_split_ands;(with_reducible refine(hc.o _).mono ?_);rintro r wX ⟨rfl,h4⟩;have h7:=ze ((‹Below V.heap.size V _›).trans (h4.mono (‹Below V.heap.size V _›).size));(try clear h6);have h6:=ze h7.o;(try clear h9);have h9:=h6.o.size;clear h7 h4)
    |(go_at_call 249;go_split_ands;(with_reducible refine(hf.o _ (by assumption)).mono ?_);rintro r wX ⟨⟨z,rfl⟩,h4⟩;have h7:=ze ((‹Below V.heap.size V _›).trans (h4.mono (‹Below V.heap.size V _›).size));(try clear h6);have h6:=ze h7.o;(try clear h9);have h9:=h6.o.size;clear h7 h4))
  all_goals(
   go_wp2_with fail
   go_meet
   exact⟨z,rfl,h6.o⟩)
 case rest=>
 obtain⟨z,rfl,hk⟩:=hcut;have he:=ze hk;clear hk hf hc;have hn:=ze (fun W=>ki a b pf W);have ho:=ze (fun W=>ki a b po W);generalize kL a b pf=X1 at*;generalize kL a b po=X2 at*;clear hp;obtain⟨W1,hr⟩:∃ W1,W1=wc:=⟨_,rfl⟩;subst hr;have MKO:=ze (fun W(hb:Below V.heap.size V W)=>(show((s.K sA sn sk W q)/\(xD (O U a) (O U b) W (q+1+1))/\W.cell? ⟨q+1+1+1,2,none⟩=some (O J pf)/\W.cell? ⟨q+1+1+1,3,none⟩=some (O J po))from
  ⟨((HS.o.below hb h0).o13).1,((HM.o.below hb h2).o2).1,((HP.o.below hb h3) 2 _ rfl).1,((HP.o.below hb h3) 3 _ rfl).1⟩))
 obtain⟨⟨s0,s1,s2,s3,s4,s5,s6,s7,s8,s9,s10,s11,s12⟩,⟨m0,m1⟩,p2,p3⟩:=MKO.o _ he.o;cases X1<;>cases X2
 all_goals(
  have h5:=ze he.o;go_upto_region 6 with(first
   |(go_at_call 257;(with_reducible refine(hn.o _).mono ?_);rintro r wX ⟨rfl,h4⟩;have h8:=ze (h5.o.trans (h4.mono h5.o.size));clear h5 h4;have h5:=ze h8.o;clear h8 s0 s1 s2 s3 s4 s5 s6 s7 s8 s9 s10 s11 s12 m0 m1 p2 p3;obtain⟨⟨s0,s1,s2,s3,s4,s5,s6,s7,s8,s9,s10,s11,s12⟩,⟨m0,m1⟩,p2,p3⟩:=MKO.o _ h5.o)
   |(go_at_call 257;(with_reducible refine(ho.o _).mono ?_);rintro r wX ⟨rfl,h4⟩;have h8:=ze (h5.o.trans (h4.mono h5.o.size));clear h5 h4;have h5:=ze h8.o;clear h8 s0 s1 s2 s3 s4 s5 s6 s7 s8 s9 s10 s11 s12 m0 m1 p2 p3;obtain⟨⟨s0,s1,s2,s3,s4,s5,s6,s7,s8,s9,s10,s11,s12⟩,⟨m0,m1⟩,p2,p3⟩:=MKO.o _ h5.o)
   |(go_at_call 271;(with_reducible refine(hg.o _).mono ?_);rintro r wX ⟨⟨y,rfl⟩,h4⟩;have h8:=ze (h5.o.trans (h4.mono h5.o.size));clear h5 h4;have h5:=ze h8.o;clear h8 s0 s1 s2 s3 s4 s5 s6 s7 s8 s9 s10 s11 s12 m0 m1 p2 p3;obtain⟨⟨s0,s1,s2,s3,s4,s5,s6,s7,s8,s9,s10,s11,s12⟩,⟨m0,m1⟩,p2,p3⟩:=MKO.o _ h5.o))
  clear s0 s1 s2 s3 s4 s5 s6 s7 s8 s9 s10 s11 s12 m0 m1 p2 p3;have MK:=ze (fun W(hb:Below V.heap.size V W)=>(show s.K sA sn sk W q/\W.cell? ⟨q+1,5,none⟩=some (.slice A n k)/\xD (O U a) (O U b) W (q+1+1)/\W.cell? ⟨q+1+1+1,2,none⟩=some (O J pf)/\W.cell? ⟨q+1+1+1,3,none⟩=some (O J po)/\Below V.heap.size V W from⟨(HS.o.below hb h0).k13 rfl,((HC.o.below hb h1) 5 _ rfl).1,(HM.o.below hb h2).k2,((HP.o.below hb h3) 2 _ rfl).1,((HP.o.below hb h3) 3 _ rfl).1,hb⟩))
  go_region_held3 (fun W=>s.K sA sn sk W q/\W.cell? ⟨q+1,5,none⟩=some (.slice A n k)/\xD (O U a) (O U b) W (q+1+1)/\W.cell? ⟨q+1+1+1,2,none⟩=some (O J pf)/\W.cell? ⟨q+1+1+1,3,none⟩=some (O J po)/\Below V.heap.size V W)
   (((refine MK.o _ ?_);(first|(with_reducible exact h6.o)|(with_reducible exact h5.o)|(with_reducible exact h5.o.drew)|(with_reducible exact fh.drew)|(go_grown;done)|(go_grown;with_reducible exact h6.o)|(go_grown;with_reducible exact h5.o))))
   (first
    |(go_at_call 277;go_split_ands;(with_reducible refine(hl.o _ (by assumption)).mono ?_);rintro r wX ⟨⟨z2,rfl⟩,h4⟩;have h7:=ze ((‹Below V.heap.size V _›).trans (h4.mono (‹Below V.heap.size V _›).size));(try clear h6);have h6:=ze h7.o;(try clear h9);have h9:=h6.o.size;clear h7 h4)
    |(go_at_call 271;go_split_ands;(with_reducible refine(hg.o _).mono ?_);rintro r wX ⟨⟨z3,rfl⟩,h4⟩;have h7:=ze ((‹Below V.heap.size V _›).trans (h4.mono (‹Below V.heap.size V _›).size));(try clear h6);have h6:=ze h7.o;(try clear h9);have h9:=h6.o.size;clear h7 h4))
  all_goals(
   go_wp2_with fail;go_ret;exact⟨⟨_,rfl⟩,HQ.o▸hm.o.trans (h6.o.mono (by omega))⟩))
theorem GK(s:Sc)(hs:s.ok)(sA:iX)(sn sk:Nat)(A:iX)(n k B:Nat)(L:List Ca)(tA:iX)(tk:Nat)(M:List (Int×Int))(pi pt pf po:Int)(w:l6)(h:Cas w B s.gap A n L)(hM:Sts w B tA n M)(hB:B<=w.heap.size)(hn:n<=1000)(f0:0<=pf)(f1:pf<=128)(t0:0<=po)(t1:po<=128)(ht:Tab w)(hD:5<w.heap.size):
  Calls prog 223 #[s.v sA sn sk,.slice A n k,.slice tA n tk,.agg #[O J pi,O J pt,O J pf,O J po]] w fun r w'=>fW n r/\Below w.heap.size w w':=by
 have g0:=hs.gap.1;have g1:=hs.gap.2;have hc:=ze (Bs.two w (s.ls sA sn sk) [O J pi,O J pt,O J pf,O J po] 25 117);have HL:=ze h;have HM:=ze hM;have HT:=ze (fun V(hb:Below w.heap.size w V)=>ht.below hb hD);clear h ht hM
 go_in
 go_wp2_with fail
 go_loopw [9,15] (fun v i wr=>∃(j:Nat)(l:l8),j<=n/\i=O J j/\l.length=j/\HB.Own wr (w.heap.size+1+1) 3 1 (fa .i64) v l/\Bs w wr [(w.heap.size+1,[O J pi,O J pt,O J pf,O J po]),(w.heap.size,s.ls sA sn sk)]) (fun _ i _=>n-(intOf i).toNat)
 case atStart=>exact⟨0,[],vf _,rfl,rfl,HB.Own.nil _ _ _ _ _,hc.o⟩
 case round=>
  obtain⟨j,l,hj,rfl,hl,h2,hb⟩:=hrel;have HO:=ze h2;have HB:=ze hb;have h4:=ze hl;have hz:w.heap.size<wr.heap.size:=hb.lt (q:=w.heap.size) (l:=s.ls sA sn sk) (by simp);have hu:w.heap.size+1<wr.heap.size:=hb.lt (q:=w.heap.size+1) (l:=[O J pi,O J pt,O J pf,O J po]) (by simp);obtain⟨⟨q0,q1,q2,q3⟩,-⟩:=(HB.o.cell (q:=w.heap.size+1) (l:=[O J pi,O J pt,O J pf,O J po]) (by simp)).o4;obtain⟨⟨s0,s1,s2,s3,s4,s5,s6,s7,s8,s9,s10,s11,s12⟩,-⟩:=(HB.o.cell (q:=w.heap.size) (l:=s.ls sA sn sk) (by simp)).o13;clear h2 hb hl;by_cases h8:j<n
  ·obtain⟨b,off,x,rfl,hq,hx,h6,ho,c0,c1,c2,c3,c4,c5⟩:=((HL.o.below (HB.o.b.mono hB))).at_ h8;obtain⟨b2,off2,y,rfl,hi,m0,m1⟩:=((HM.o.below (HB.o.b.mono hB))).at_ h8;obtain⟨y0,y1⟩:=y;have i0:(0:Int)<=(j:Int):=by omega
   have i1:(j:Int)<(n:Int):=by omega
   have h5:b<wr.heap.size:=by omega
   have h7:b2<wr.heap.size:=by omega
   have hp:b2<wr.heap.size+1:=by omega
   have HX:=ze hx;have HC:=ze (fun V(hb:Below w.heap.size w V)=>GJ s hs sA sn sk x.c x.A x.n x.k y0 y1 pi pt pf po V h6.p0 (by have:=h6.p1;omega) f0 f1 t0 t1 (HT.o V hb) (by have:=hb.size;omega));clear hx h6 ho;go_wp2_with(first
    |(go_at_call 252;(with_reducible refine(HC.o _ ((HB.o.b.alloc HB.o.b.size _).alloc (by simp;have:=HB.o.b.size;omega) _)).mono ?_);rintro r w1 ⟨⟨z,rfl⟩,h5⟩;have h0:Below wr.heap.size wr w1:=((fh.alloc fi _).alloc (by simp) _).trans (h5.mono (by simp;omega));have he:=ze (HO.o.below h0);have hd:=ze (HB.o.step h0);have hr:=h0.size;have hk:l.length<=1000000000:=(by have:=h4.o;omega);clear h5 h0 s0 s1 s2 s3 s4 s5 s6 s7 s8 s9 s10 s11 s12 c0 c1 c2 c3 c4 c5 m0 m1 q0 q1 q2 q3)
    |(at_builtin;refine push rfl _ _ 51 rfl underlying51 Ints.info rfl (by omega) (by omega) rfl (he.o.alloc _) z ⟨_,0,none⟩ 1 rfl rfl (cell_one_new _ _ _) (by simp[Value.oneCell']) hk (by simp;omega) ?_;intro v' w2 h3 h7))
   go_roundw
   case rel=>exact⟨j+1,l++[z],by omega,by go_num,by rw[kC,h4.o];rfl,h3,(hd.o.step (fh.alloc fi _)).stepB h7 (by omega) (by simp<;>omega)⟩
   case measure=>simp[intOf];omega
  ·obtain rfl:j=n:=by omega
   obtain⟨A2,c2,rfl,-,h9⟩:=HO.o.ints;have hm:l.length<=1000000:=by have:=h4.o;omega
   have hf:=ze h9;clear h9;go_wp2_with(go_at_call 248;refine(uD A2 l.length c2 _ l _ hf.o hm).mono ?_;rintro r w3 ⟨⟨z,rfl,ha⟩,rfl⟩;have hg:=ze ha;clear ha);go_ret;exact⟨⟨_,rfl,by have h1:=hg.o;rw[h4.o]at h1;exact h1⟩,HB.o.b⟩
theorem yH(base:Nat)(s:Sc)(hs:s.ok)(sA:iX)(sn sk wb h:Nat)(w:l6)(S:HS)(A:iX)(n k:Nat)(tv:Value)(L:List Ca)(trips:List Tr)(T pi pt pf po:Int)
  (H:Wd base s sA sn sk wb h w S (.slice A n k) tv L trips T)(hc:Cas w w.heap.size s.gap A n L)(hn:n<=1000)(f0:0<=pf)(f1:pf<=128)(t0:0<=po)(t1:po<=128)(ht:Tab w)(hD:5<w.heap.size):
  Calls prog 186 #[.pointer (some ⟨wb,0,none⟩),.agg #[O J pi,O J pt,O J pf,O J po]] w fun e w'=>(∃m:Int,e=.returned (O J m)/\(s.disp=4->-1<=m/\m<n+1)/\(pf<s.fl->0<n->(n:Int)=s.cars->0<=m/\m<n))/\Below w.heap.size w w':=by
 have hd:=hs.disp;have hS:wb<w.heap.size:=H.bx.lt (by simp);have hF:=ze H.bx;have hv:=ze (Bs.one w [O J pi,O J pt,O J pf,O J po] 117);have hC:=ze (fun V(hb:Below w.heap.size w V)=>ht.below hb hD);have hy:=ze (fun V(hb:Below w.heap.size w V)=>(H.below hb).hl);have hz:=ze (fun V(hb:Below w.heap.size w V)=>hc.below hb);have hQ:s.fl≠0:=by have:=hs.fl;omega
 clear H hc ht
 go_in
 go_upto_region 1 with(fail);refine j9 (w:=w) (fun W=>Bs w W [(w.heap.size,[O J pi,O J pt,O J pf,O J po])]) hv.o (by go_grown) (by simp) ?_;rintro V hb h8 hU;have HP:=ze (hb.cell (q:=w.heap.size) (l:=[O J pi,O J pt,O J pf,O J po]) (by simp));have h0:=hb.lt (q:=w.heap.size) (l:=[O J pi,O J pt,O J pf,O J po]) (by simp);have hp:wb<V.heap.size:=by omega
 have hj:=ze (hF.o.below h8 hS);have hL:=ze h8;have hE:=ze (fun W(hb:Below V.heap.size V W)=>hC.o W (h8.trans (hb.mono h8.size)));have hN:=ze (fun W(hb:Below V.heap.size V W)=>hy.o W (h8.trans (hb.mono h8.size)));have hk:=ze (fun W(hb:Below V.heap.size V W)=>(hz.o W (h8.trans (hb.mono h8.size))).mono (B':=W.heap.size) (by have:=h8.size;have:=hb.size;omega));have hT:5<V.heap.size:=by omega
 have hg:=ze (fun W=>qn pf po W (by omega) (by omega));generalize yw (po-pf)=D at hg;have hG:=ze (fun W(hb:Below V.heap.size V W)=>hj.o.below hb hp);have hA:=ze (fun W(hb:Below V.heap.size V W)=>YU s hs sA sn sk A n k W.heap.size L pf D W (hk.o W hb) fi hn f0 f1);have hO:=ze (fun W=>VG s.fl s.cars pf W hQ);have hP:=ze (fun W(hb:Below V.heap.size V W)=>Xw s.gap wb h S A n k W.heap.size L W (((hG.o W hb) 13 _ rfl).1) (((hG.o W hb) 14 _ rfl).1) (hN.o W hb) (hk.o W hb) fi hn);have hw:=ze (fun W(hb:Below V.heap.size V W) tA tk M(hM:Sts W W.heap.size tA n M)=>WT s hs sA sn sk A n k W.heap.size L tA tk M pf D W (hk.o W hb) hM fi hn f0 f1 (hE.o W hb).tz (by have:=hb.size;omega));have hu:=ze (fun W(hb:Below V.heap.size V W) tA tk M(hM:Sts W W.heap.size tA n M)=>GK s hs sA sn sk A n k W.heap.size L tA tk M pi pt pf po W (hk.o W hb) hM fi hn f0 f1 t0 t1 (hE.o W hb) (by have:=hb.size;omega));obtain⟨⟨p0,p1,p2,p3⟩,-⟩:=HP.o.o4;obtain⟨⟨x0,x1,x2,x3,x4,x5,x6,x7,x8,x9,x10,x11,x12,x13,x14,x15,x16⟩,-⟩:=hj.o.o17;clear hv hF hC hy hz hb h8;rcases(show s.disp=1\/s.disp=2\/s.disp=3\/s.disp=4 by omega)with hd|hd|hd|hd
 all_goals first
  |((have he:s.disp=1:=hd);clear he;(have e1:(s.disp==1)=true:=by simpa using hd);(simp only[Sc.v,hd]at hA);go_upto_region 4 with(first|(go_at_call 188;(with_reducible refine(hg.o _).mono ?_);rintro r wX ⟨rfl,e⟩;have e':=e.symm;subst e';clear e)))
  |((have he:s.disp=2:=hd);clear he;(have e1:(s.disp==1)=false:=by simp;omega);(have e2:(s.disp==2)=true:=by simpa using hd);go_upto_region 6 with(first|(go_at_call 188;(with_reducible refine(hg.o _).mono ?_);rintro r wX ⟨rfl,e⟩;have e':=e.symm;subst e';clear e)))
  |((have he:s.disp=3:=hd);clear he;(have e1:(s.disp==1)=false:=by simp;omega);(have e2:(s.disp==2)=false:=by simp;omega);(have e3:(s.disp==3)=true:=by simpa using hd);(simp only[Sc.v,hd]at hw);go_upto_region 8 with(first|(go_at_call 188;(with_reducible refine(hg.o _).mono ?_);rintro r wX ⟨rfl,e⟩;have e':=e.symm;subst e';clear e)))
  |((have he:s.disp=4:=hd);clear he;(have e1:(s.disp==1)=false:=by simp;omega);(have e2:(s.disp==2)=false:=by simp;omega);(have e3:(s.disp==3)=false:=by simp;omega);(simp only[Sc.v,hd]at hu);go_upto_region 9 with(first|(go_at_call 188;(with_reducible refine(hg.o _).mono ?_);rintro r wX ⟨rfl,e⟩;have e':=e.symm;subst e';clear e)))
 all_goals
  clear x0 x1 x2 x3 x4 x5 x6 x7 x8 x9 x10 x11 x12 x13 x14 x15 x16 p0 p1 p2 p3;have MK:=ze (fun W(hb:Below V.heap.size V W)=>(show s.K sA sn sk W wb/\W.cell? ⟨wb,13,none⟩=some (.pointer (some ⟨h,0,none⟩))/\W.cell? ⟨wb,14,none⟩=some (.slice A n k)/\dZ (O J pi) (O J pt) (O J pf) (O J po) W (w.heap.size)/\Below V.heap.size V W from⟨(hj.o.below hb hp).k13 rfl,((hj.o.below hb hp) 13 _ rfl).1,((hj.o.below hb hp) 14 _ rfl).1,(HP.o.below hb h0).k4,hb⟩))
  go_region_held3 (fun W=>s.K sA sn sk W wb/\W.cell? ⟨wb,13,none⟩=some (.pointer (some ⟨h,0,none⟩))/\W.cell? ⟨wb,14,none⟩=some (.slice A n k)/\dZ (O J pi) (O J pt) (O J pf) (O J po) W (w.heap.size)/\Below V.heap.size V W)
   (((refine MK.o _ ?_);(first|(with_reducible exact h5.o)|(with_reducible exact fh.drew)|(go_grown;done)|(go_grown;with_reducible exact h5.o))))
   (first
    |(go_at_call 219;go_split_ands;(with_reducible refine(hA.o _ (by assumption)).mono ?_);rintro r wX ⟨⟨m,rfl,ha⟩,h7⟩;have hi:=ze ha;clear ha;have h6:=ze ((‹Below V.heap.size V _›).trans (h7.mono (‹Below V.heap.size V _›).size));(try clear h5);have h5:=ze h6.o;(try clear h9);have h9:=h5.o.size;clear h6 h7;have hm:=ze (show s.disp=4->-1<=m/\m<(n:Int)+1 from fun e=>absurd e (by omega)))
    |(go_at_call 220;go_split_ands;(with_reducible refine(hO.o _).mono ?_);rintro r wX ⟨⟨m,rfl,ha⟩,h7⟩;have hi:=ze ha;clear ha;have h6:=ze ((‹Below V.heap.size V _›).trans (h7.mono (‹Below V.heap.size V _›).size));(try clear h5);have h5:=ze h6.o;(try clear h9);have h9:=h5.o.size;clear h6 h7;have hm:=ze (show s.disp=4->-1<=m/\m<(n:Int)+1 from fun e=>absurd e (by omega)))
    |(go_at_call 222;go_split_ands;(with_reducible refine(hP.o _ (by assumption)).mono ?_);rintro r wX ⟨v,M,rfl,hf,ho,h7⟩;obtain⟨tA,tk,rfl⟩:∃ tA tk,v=.slice tA n tk:=(by obtain⟨tA,tn,tk,e,hR,-⟩:=hf.slice;exact⟨tA,tk,by rw[e,hR,ho]⟩);have hB:=ze (show Sts wX wX.heap.size tA n M from(by have hJ:=hf.row;rw[ho]at hJ;exact⟨Rd.own hJ,ho⟩));clear hf ho;have h6:=ze ((‹Below V.heap.size V _›).trans (h7.mono (‹Below V.heap.size V _›).size));(try clear h5);have h5:=ze h6.o;(try clear h9);have h9:=h5.o.size;clear h6 h7)
    |(go_at_call 221;go_split_ands;(with_reducible refine(hw.o _ (by assumption) _ _ _ hB.o).mono ?_);rintro r wX ⟨⟨m,rfl,ha⟩,h7⟩;have hi:=ze ha;clear ha;have h6:=ze ((‹Below V.heap.size V _›).trans (h7.mono (‹Below V.heap.size V _›).size));(try clear h5);have h5:=ze h6.o;(try clear h9);have h9:=h5.o.size;clear h6 h7;have hm:=ze (show s.disp=4->-1<=m/\m<(n:Int)+1 from fun e=>absurd e (by omega)))
    |(go_at_call 223;go_split_ands;(with_reducible refine(hu.o _ (by assumption) _ _ _ hB.o).mono ?_);rintro r wX ⟨⟨m,rfl,hq,hr,hI⟩,h7⟩;have hi:=ze (show -1<=m/\m<(n:Int)+1/\(0<n->0<=m/\m<n)from⟨hq,hr,hI⟩);have h6:=ze ((‹Below V.heap.size V _›).trans (h7.mono (‹Below V.heap.size V _›).size));(try clear h5);have h5:=ze h6.o;(try clear h9);have h9:=h5.o.size;clear h6 h7;have hm:=ze (show s.disp=4->-1<=m/\m<(n:Int)+1 from fun _=>⟨hq,hr⟩);clear hq hr hI))
  all_goals(
   go_wp2_with fail;go_ret;exact⟨⟨_,rfl,hm.o,fun h1 h2 h3=>by first|exact hi.o.2.2 h2|(have h4:=hi.o f0 h1 hs.fl.2 hs.cars.1 hs.cars.2;rw[h3];exact h4)⟩,hL.o.trans (h5.o.mono (by omega))⟩)
section
variable{base:Nat}{s:Sc}{sA:iX}{sn sk wb h:Nat}{w V w':l6}{S S':HS}{cv cv' tv tv':Value}{L L':List Ca}{trips trips':List Tr}{T T':Int}
theorem Wd.trips_(H:Wd base s sA sn sk wb h w S cv tv L trips T)(hb:Below w.heap.size w V)(ho:HB.Own w' base 87 7 kN tv' trips')(hx:Bx w' wb (d6 s sA sn sk h cv tv' T))(hbut:But (fun p=>p=wb\/tv.ownBlock=some p) V w')
  (hnew:∀ p,tv'.ownBlock=some p->tv.ownBlock=some p\/V.heap.size<=p):WdN base s sA sn sk wb h w S cv tv L w' S cv tv' L trips' T:=by
 have h0:But (fun p=>p=wb\/tv.ownBlock=some p) w w':=(But.of_below hb).trans hbut (fun _ _ h=>h);have hz:=hb.size;have h3:=H.bx.lt (by simp);have hX:∀ k,k<w.heap.size->Wx wb h S cv tv' k->Wx wb h S cv tv k:=fun k hk hx=>by
  rcases hx with hx|hx|hx|hx
  ·exact .inl hx
  ·exact .inr (.inl hx)
  ·exact .inr (.inr (.inl hx))
  ·rcases hnew k hx with h1|h1
   ·exact .inr (.inr (.inr h1))
   ·omega
 refine⟨⟨hx,H.wl,H.hl.but h0 (fun k hk e=>e.elim (fun e=>H.s1 (e▸hk)) (fun e=>(H.s3 k e).2 hk)),H.hb,H.cr.but h0 (fun p hp e=>e.elim (H.s2 p hp).1 (H.s2 p hp).2.2),fun z h2=>⟨HB.Rds.but (H.ri z h2).1 h0 (fun b off e hx=>(H.s4 b ⟨z,h2,off,e⟩).2.2 (hx.elim .inl (fun h=>.inr (.inr (.inr h))))),(H.ri z h2).2⟩,ho,H.s1,fun p hp=>⟨(H.s2 p hp).1,(H.s2 p hp).2.1,fun e=>?_⟩,fun p hp=>?_,fun k hk=>⟨(H.s4 k hk).1,kK (H.s4 k hk).2.1 h0.size,fun hx=>(H.s4 k hk).2.2 (hX k (H.s4 k hk).2.1 hx)⟩⟩,h0.mono (fun k _ hx=>hx.elim .inl (fun h=>.inr (.inr (.inr h)))),hX,fun k _ h=>h⟩
 ·rcases hnew p e with h1|h1
  ·exact(H.s2 p hp).2.2 h1
  ·have:=(H.cr.lt hp).2;omega
 ·rcases hnew p hp with h1|h1
  ·exact H.s3 p h1
  ·exact⟨by omega,fun hx=>by have:=H.hl.xlt hx;omega⟩
theorem Wd.hall(H:Wd base s sA sn sk wb h w S cv tv L trips T)(hn:HNext w h S w' S'):WdN base s sA sn sk wb h w S cv tv L w' S' cv tv L trips T:=by
 have hb:=hn.but;have h2:=H.bx.lt (by simp);have hwl:=H.wl;have hX:∀ k,k<w.heap.size->Wx wb h S' cv tv k->Wx wb h S cv tv k:=fun k hk hx=>by
  rcases hx with hx|hx|hx
  ·exact .inl hx
  ·exact .inr (.inl (hn.x k hk hx))
  ·exact .inr (.inr hx)
 refine⟨⟨H.bx.but hb h2 H.s1,H.wl,hn.hl,fun k hk=>?_,H.cr.but hb (fun p hp=>(H.s2 p hp).2.1),fun z h0=>⟨HB.Rds.but (H.ri z h0).1 hb (fun b off e hx=>(H.s4 b ⟨z,h0,off,e⟩).2.2 (.inr (.inl hx))),(H.ri z h0).2⟩,H.tr.but hb (fun p hp=>(H.s3 p hp).2),fun hx=>H.s1 (hn.x wb h2 hx),fun p hp=>⟨(H.s2 p hp).1,fun hx=>(H.s2 p hp).2.1 (hn.x p (H.cr.lt hp).2 hx),(H.s2 p hp).2.2⟩,fun p hp=>⟨(H.s3 p hp).1,fun hx=>(H.s3 p hp).2 (hn.x p (H.tr.lt hp).2 hx)⟩,fun k hk=>⟨(H.s4 k hk).1,kK (H.s4 k hk).2.1 hb.size,fun hx=>(H.s4 k hk).2.2 (hX k (H.s4 k hk).2.1 hx)⟩⟩,hb.mono (fun k _ hx=>.inr (.inl hx)),hX,fun k _ h=>h⟩;rcases YF k w.heap.size with h1|h1
 ·exact H.hb k (hn.x k h1 hk)
 ·omega
theorem Wd.bs(H:Wd base s sA sn sk wb h w S cv tv L trips T):base<=w.heap.size:=by
 have:=H.wl;have:=H.bx.lt (by simp);omega
theorem WdN.bel(H:Wd base s sA sn sk wb h w S cv tv L trips T)(hn:WdN base s sA sn sk wb h w S cv tv L w' S' cv' tv' L' trips' T'):Below base w w':=
 hn.but.below (fun k hk=>(H.xlt hk).1) H.bs
theorem Wd.cas{A:iX}{n k:Nat}{g:Int}(H:Wd base s sA sn sk wb h w S (.slice A n k) tv L trips T)(hok:∀ x∈L,x.ok g):Cas w w.heap.size g A n L:=by
 obtain⟨A',c',e,h1,h2⟩:=H.cr.shape;simp only[We]at e;obtain⟨rfl,rfl,rfl⟩:=e;exact⟨h2,rfl,fun x hx=>(H.ri x hx).1,hok⟩
end
def ij(s:Sc)(n:Nat)(pf po:Int)(S S':HS)(key:HK)(x:Wt):Prop:=(S.ne->S'.ne)/\x.to_=po/\key.1=pf/\key.2.1=yw (po-pf)/\
 ((s.disp=4/\S'.fc=S.fc/\(pf<s.fl->0<n->(n:Int)=s.cars->0<=key.2.2/\key.2.2<n))\/
  (s.disp≠4/\key.2.2=-1/\∃ m c:Int,(S'.fc=if(S.fc (pf,yw (po-pf))).isSome=true then S.fc else upd S.fc (pf,yw (po-pf)) (some (m,c)))/\(pf<s.fl->0<n->(n:Int)=s.cars->0<=c/\c<n)))
def er(base:Nat)(s:Sc)(sA:iX)(sn sk wb h:Nat)(w:l6)(S:HS)(A:iX)(n k:Nat)(tv:Value)(L:List Ca)(trips:List Tr)(T pi pt pf po:Int)(e:Ending)(w':l6):Prop:=
 e=.returned (.tuple #[])/\∃(S':HS)(tv':Value)(key:HK)(x:Wt),WdN base s sA sn sk wb h w S (.slice A n k) tv L w' S' (.slice A n k) tv' L (trips++[⟨pi,pt,pf,po,-1,-1,-1⟩]) T/\x.id=pi/\S'.L=qf S.L key (S.L key++[x])/\S'.nw<=S.nw+1/\S'.nc<=S.nc+1/\ij s n pf po S S' key x
theorem Xy(base:Nat)(s:Sc)(hs:s.ok)(sA:iX)(sn sk wb h:Nat)(w:l6)(S:HS)(A:iX)(n k:Nat)(tv:Value)(L:List Ca)(trips:List Tr)(T pi pt pf po:Int)
  (H:Wd base s sA sn sk wb h w S (.slice A n k) tv L trips T)(hok:∀ x∈L,x.ok s.gap)(hn:n<=1000)(f0:0<=pf)(f1:pf<=128)(t0:0<=po)(t1:po<=128)(ht:Tab w)(hD:5<base)(hl:trips.length<=1000000)(hnw:S.nw<=1000000)(hnc:S.nc<=1000000)(hlen:∀ k,(S.L k).length<=1000000):
  Calls prog 142 #[.pointer (some ⟨wb,0,none⟩),.agg #[O J pi,O J pt,O J pf,O J po]] w (er base s sA sn sk wb h w S A n k tv L trips T pi pt pf po):=by
 have b3:wb<w.heap.size:=H.bx.lt (by simp);have Ho:=ze H.bx;have H0:=ze (Bs.one w [O J pi,O J pt,O J pf,O J po] 117);have hV:=ze (fun V(hb:Below w.heap.size w V)=>(H.below hb).tr);have Hc:=ze (fun p hp=>(H.s3 p hp).1);have a9:=ze hl;have al:=H.bs;have HZ:=ze al;have HH:=ze H;have H8:=ze hok;have hq:=ze ht;have hk:=ze hlen;clear H hok ht hl hlen
 go_in
 go_upto_region 1 with(fail);refine j9 (w:=w) (fun W=>Bs w W [(w.heap.size,[O J pi,O J pt,O J pf,O J po])]) H0.o (by go_grown) (by simp) ?_;rintro V hb hM b7;have HP:=ze (hb.cell (q:=w.heap.size) (l:=[O J pi,O J pt,O J pf,O J po]) (by simp));have h0:=hb.lt (q:=w.heap.size) (l:=[O J pi,O J pt,O J pf,O J po]) (by simp);have HQ:wb<V.heap.size:=by omega
 have ak:base<=V.heap.size:=by have:=HZ.o;omega
 have hc:=ze (Ho.o.below hM b3);have H3:=ze hM;have H9:=ze (hV.o V hM);have ho:=ze (fun p hp=>(hV.o w fh).lt (k:=p) hp);have Hj:=ze (fun W=>VH pi pt pf po W);obtain⟨⟨p0,p1,p2,p3⟩,-⟩:=HP.o.o4;have hZ:=ze hc.o;have x15:=(hc.o 15 _ rfl).1;have y15:=(hc.o 15 _ rfl).2;clear H0 Ho hV hb hM b7;have hU:=ze (show¬(w.heap.size=wb\/tv.ownBlock=some w.heap.size)from fun hx=>by rcases hx with e|e;omega;have:=ho.o w.heap.size e;omega)
 go_cut [] (fun wx=>∃ tv',HB.Own wx base 87 7 kN tv' (trips++[(⟨pi,pt,pf,po,-1,-1,-1⟩:Tr)])/\Bx wx wb (d6 s sA sn sk h (.slice A n k) tv' T)/\But (fun p=>p=wb\/tv.ownBlock=some p) V wx/\(∀p,tv'.ownBlock=some p->tv.ownBlock=some p\/V.heap.size<=p))
 case first=>
  have MK:=ze (fun W(hb:But (fun p=>p=wb\/tv.ownBlock=some p) V W)=>(show dZ (O J pi) (O J pt) (O J pf) (O J po) W (w.heap.size)/\But (fun p=>p=wb\/tv.ownBlock=some p) V W from⟨(HP.o.but hb h0 hU.o).k4,hb⟩));have bd:=ze (But.of_below (X:=(fun p=>p=wb\/tv.ownBlock=some p)) (Below.refl V.heap.size V).drew)
  go_region_law (first
    |(go_simp;go_at_call 185;(with_reducible refine(Hj.o _).mono ?_);rintro r wX ⟨rfl,Hw⟩;have ha:=ze (show Below V.heap.size V wX from(Below.refl V.heap.size V).drew.trans Hw);have HX:=ha.o.size;have b9:=ze (But.of_below (X:=(fun p=>p=wb\/tv.ownBlock=some p)) ha.o);have b8:=ze (But.of_below (X:=(fun p=>p=wb\/tv.ownBlock=some p)) (ha.o.alloc HX (.cells #[O J pi,O J pt,O J pf,O J po,O J (-1),O J (-1),O J (-1)] 87)));have dX:=ze (hc.o.below ha.o HQ);have a4:=ze (H9.o.below ha.o);clear Hw;have d15:=(dX.o 15 _ rfl).1;have g15:=(dX.o 15 _ rfl).2;have d15a:(wX.alloc (.cells #[O J pi,O J pt,O J pf,O J po,O J (-1),O J (-1),O J (-1)] 87)).cell? ⟨wb,15,none⟩=some tv:=zf ((Below.refl wX.heap.size wX).alloc fi _) d15;have n15:=World.new_ne wX _ d15)
    |(refine jn (P:=prog) rfl _ _ 39 rfl underlying39 Trip.info rfl (by omega) (by omega) rfl (a4.o.alloc _) (⟨pi,pt,pf,po,-1,-1,-1⟩:Tr) ⟨_,0,none⟩ 1 rfl rfl (zr _ _ (kN (⟨pi,pt,pf,po,-1,-1,-1⟩:Tr)) _ rfl) (JP _) (vD a9.o (by omega)) (by simp;omega) ?_;intro v7 w7 k1 k2 k3;obtain⟨A7,n7,k7,rfl,HI,ar⟩:=HB.Own.slice k1;have ao:n7=trips.length+1:=(by simpa using HI);clear HI;subst ao;have hA:=ha.o.alloc HX (.cells #[O J pi,O J pt,O J pf,O J po,O J (-1),O J (-1),O J (-1)] 87);have H2:=ze ((But.of_below (X:=fun p=>p=wb\/tv.ownBlock=some p) hA).grown k2 (fun p hp _=>.inr hp));have bc:=ze (fun u=>H2.o.at1 (q:=wb) (.inl rfl) 15 u);have a3:=ze k1;have Hk:=ze (fun p(hp:(Value.slice A7 (trips.length+1) k7).ownBlock=some p)=>(show tv.ownBlock=some p\/V.heap.size<=p from by rcases k3 with e|e;exact .inl (e▸hp);rw[e]at hp;cases hp;exact .inr (by simp;omega)));have Hq:=ze ((hc.o.below hA HQ).but (But.of_grown (X:=fun p=>tv.ownBlock=some p) k2 (fun p hp=>hp)) (by have:=hA.size;omega) (fun hx=>Hc.o wb hx rfl));clear k1 k2 k3 hA;obtain⟨⟨-,-,-,-,-,-,-,-,-,-,-,-,-,-,-,d7,-⟩,-,-,-,-,-,-,-,-,-,-,-,-,-,-,-,g7,-⟩:=Hq.o.o17))
  all_goals(
   go_wp2_with fail
   go_meet
   exact⟨.slice A7 (trips.length+1) k7,a3.o.but ((But.refl (fun q=>q=wb) w7).at1 rfl _ _) (fun p hp e=>by have h1:=Hk.o p hp;rcases h1 with h1|h1;exact Hc.o p h1 e;omega),Hq.o.set 15 (.slice A7 (trips.length+1) k7),H2.o.at1 (.inl rfl) _ _,Hk.o⟩)
 case rest=>
 obtain⟨tv2,HJ,HT,hJ,HG⟩:=hcut;obtain⟨W2,ad⟩:∃ W2,W2=wc:=⟨_,rfl⟩;subst ad;have h3:=ze (Wd.trips_ HH.o H3.o HJ HT hJ HG);have hX:=ze (HP.o.but hJ h0 hU.o);have bl:=hJ.size;clear HJ HT hJ HG hZ x15 y15 p0 p1 p2 p3 hc H9 Hj HP H3 hU ho;obtain⟨⟨p0,p1,p2,p3⟩,-⟩:=hX.o.o4;have x9:=(h3.o.wd.bx 9 _ rfl).1;have x13:=(h3.o.wd.bx 13 _ rfl).1;have HM:w.heap.size<W2.heap.size:=by omega
 have b4:wb<W2.heap.size:=by omega
 have hi:=ze (fun W(hb:Below W2.heap.size W2 W)=>yH base s hs sA sn sk wb h W S A n k tv2 L (trips++[(⟨pi,pt,pf,po,-1,-1,-1⟩:Tr)]) T pi pt pf po (h3.o.wd.below hb) ((h3.o.wd.below hb).cas H8.o) hn f0 f1 t0 t1 ((hq.o.below (h3.o.bel HH.o) hD).below hb (by have:=h3.o.wd.bs;omega)) (by have:=h3.o.wd.bs;have:=hb.size;omega));have HR:∀ z:Int,-1000000000<=z->z<=1000000000->jX z:=fun z h1 h2=>zQ h1 h2
 have hI:=ze HR;clear HR;by_cases hd:s.disp=4
 ·have d4:(s.disp==4)=true:=by simpa using hd
  have HD:=ze hd;clear hd;go_upto_region 4 with(fail);refine zq (w:=W2) (fun W=>Bx W W2.heap.size [O J pi,O J pf,O J po,O J (-1)]/\W2.heap.size<W.heap.size) ⟨Bx.new W2 [O J pi,O J pf,O J po,O J (-1)] 318,by simp⟩ ((Below.refl W2.heap.size W2).alloc fi _) ?_;rintro W3 ⟨he,HU⟩ h7;have hG:=ze he;have hg:=ze h7;clear p0 p1 p2 p3 x9 x13 he h7;obtain⟨⟨p0,p1,p2,p3⟩,-⟩:=(hX.o.below hg.o HM).o4;go_upto_region 5 with(go_at_call 186;(with_reducible refine(hi.o _ hg.o).mono ?_);rintro r w5 ⟨⟨mm,rfl,HF,hw⟩,h5⟩;have H7:=ze (HF HD.o);have hQ:=ze hw;clear hw;have H1:=ze (hg.o.trans (h5.mono (by omega)));have hY:=ze (hG.o.below h5 HU);have HW:=h5.size;clear HF h5 p0 p1 p2 p3;obtain⟨⟨-,-,-,z3⟩,-,-,-,k3⟩:=hY.o.o4);refine zq (w:=W2) (fun W=>Bx W W2.heap.size [O J pi,O J pf,O J po,O J mm]/\W2.heap.size<W.heap.size) ⟨hY.o.set 3 _,by simp;omega⟩ (H1.o.setCell (p:=⟨W2.heap.size,3,none⟩) fi _) ?_;rintro W6 ⟨HO,bm⟩ hr;have a7:=ze HO;have h8:=ze hr;clear z3 k3 HO hr hY H1 HW hG hg hi;have Hs:=h3.o.below h8.o;have hS:=ze Hs;have be:=H7.o.1;have bk:=H7.o.2;have hC:=ze (fun W(hb:Below W6.heap.size W6 W)=>Ju h S ⟨pi,pf,po,mm⟩ W (hS.o.wd.hl.below hb) (by show(-1000000:Int)<=pf;omega) (by show pf<=(1000000:Int);omega) (by show(-1000000:Int)<=po;omega) (by show po<=(1000000:Int);omega) (by show(-1000000000:Int)<=mm;omega) (by show mm<=(1000000000:Int);omega) hnw hk.o);have x13:=(hS.o.wd.bx 13 _ rfl).1;obtain⟨⟨z0,z1,z2,z3⟩,-⟩:=a7.o.o4;clear Hs
  go_region_with (go_at_call 187;(with_reducible refine(hC.o _ fh.drew).mono ?_);rintro r w7 ⟨rfl,S',hN,hL,hf,hO,hu,hy⟩;have HN:=ze hN;have HL:=ze hL;have hP:=ze hu;have hT:=ze hy;clear hN hL hu hy z0 z1 z2 z3 x13)
  all_goals(
   go_wp2_with fail;go_end0;have h9:=(hS.o.below fh.drew);exact⟨rfl,S',tv2,_,⟨pi,pf,po,mm⟩,h9.trans (Wd.hall h9.wd HN.o),rfl,HL.o,hf,by omega,hT.o,rfl,rfl,rfl,.inl ⟨HD.o,hP.o,hQ.o⟩⟩)
 ·have d4:(s.disp==4)=false:=by simpa using hd
  have H5:=ze hd;clear hd;go_upto_region 6 with(fail);refine zq (w:=W2) (fun W=>Bx W W2.heap.size [O J pi,O J pf,O J po,O J (-1)]/\W2.heap.size<W.heap.size) ⟨Bx.new W2 [O J pi,O J pf,O J po,O J (-1)] 318,by simp⟩ ((Below.refl W2.heap.size W2).alloc fi _) ?_;rintro W3 ⟨he,HU⟩ h7;have hG:=ze he;have hg:=ze h7;have hF:=ze (h3.o.below h7);have a5:=ze (hX.o.below h7 HM);have he:w.heap.size<W3.heap.size:=by omega
  have b5:wb<W3.heap.size:=by omega
  have hC:=ze (fun W(hb:Below W3.heap.size W3 W)=>Ju h S ⟨pi,pf,po,-1⟩ W (hF.o.wd.hl.below hb) (by show(-1000000:Int)<=pf;omega) (by show pf<=(1000000:Int);omega) (by show(-1000000:Int)<=po;omega) (by show po<=(1000000:Int);omega) (show(-1000000000:Int)<=-1 by decide) (show(-1:Int)<=1000000000 by decide) hnw hk.o);clear p0 p1 p2 p3 x9 x13 h7 hi;have x13:=(hF.o.wd.bx 13 _ rfl).1;obtain⟨⟨z0,z1,z2,z3⟩,-⟩:=hG.o.o4;have ac:=ze (fun k(hx:Xh S h k)=>hF.o.wd.hl.xlt hx);have ab:=ze (show¬Xh S h w.heap.size from fun hx=>by have:=HH.o.hl.xlt hx;omega)
  go_cut [] (fun wx=>∃ S',HNext W3.drew h S wx S'/\S'.L=qf S.L (pf,yw (po-pf),-1) (S.L (pf,yw (po-pf),-1)++[⟨pi,pf,po,-1⟩])/\S'.nw<=S.nw+1/\S'.nc=S.nc/\S'.fc=S.fc/\(S.ne->S'.ne))
  case first=>
   go_region_with (go_at_call 187;(with_reducible refine(hC.o _ fh.drew).mono ?_);rintro r w7 ⟨rfl,S',hN,hL,hf,hO,hu,hy⟩;have HN:=ze hN;have HL:=ze hL;have hP:=ze hu;have hT:=ze hy;clear hN hL hu hy z0 z1 z2 z3 x13)
   all_goals(
    go_wp2_with fail
    go_meet
    exact⟨S',HN.o,HL.o,hf,hO,hP.o,hT.o⟩)
  case rest=>
  obtain⟨S1,hN,hL,hf,hO,hv,hz⟩:=hcut;have h6:=ze hv;have hm:=ze hz;clear hv hz;obtain⟨W4,af⟩:∃ W4,W4=wc:=⟨_,rfl⟩;subst af;clear z0 z1 z2 z3 x13 hC ac;have h9:=(hF.o.below fh.drew);have hR:=ze (h9.trans (Wd.hall h9.wd hN));have Ha:=ze ((a5.o.drew).but hN.but he ab.o);have b6:=hN.but.size;have H6:=ze hL;have am:S1.nc<=1000000:=by omega
  have aA:w.heap.size<W4.heap.size:=by simp at b6;omega
  have b0:=ZX (po-pf);have b1: -1<=yw (po-pf):=by omega
  have b2:yw (po-pf)<=1:=by omega
  have hj:=ze (fun W=>qn pf po W (by omega) (by omega));have H4:=ze (fun W(hb:Below W4.heap.size W4 W)=>YP h S1 pf (yw (po-pf)) W (hR.o.wd.hl.below hb) ⟨hI.o _ (by show(-1000000000:Int)<=pf;omega) (by show pf<=(1000000000:Int);omega),hI.o _ (by show(-1000000000:Int)<=yw (po-pf);omega) (by show yw (po-pf)<=(1000000000:Int);omega)⟩);generalize HE:yw (po-pf)=dd at*;have hE:=ze HE;clear HE;clear h9 hN hL b0;obtain⟨⟨p0,p1,p2,p3⟩,-⟩:=Ha.o.o4;have x13:=(hR.o.wd.bx 13 _ rfl).1;go_upto_region 8 with(go_at_call 188;(with_reducible refine(hj.o _).mono ?_);rintro r w8 ⟨rfl,e8⟩;have e9:=e8.symm;clear e8;subst e9)
  go_cut [6,7] (fun u v wx=>∃(z:Int)(ok:Bool),u=O J z/\v=.bool ok/\ok=(S1.fc (pf,dd)).isSome/\Below W4.heap.size W4 wx)
  case first=>
   go_region_with (go_at_call 189;(with_reducible refine(H4.o _ fh.drew).mono ?_);rintro r w9 ⟨rfl,hb9⟩;have HY:=ze (show Below W4.heap.size W4 w9 from(Below.refl W4.heap.size W4).drew.trans hb9);clear hb9)
   all_goals(
    go_wp2_with fail
    go_meet
    exact⟨_,_,rfl,rfl,rfl,HY.o⟩)
  case rest=>
  obtain⟨z,ok,rfl,rfl,hB,h5⟩:=hcut;have hW:=ze hB;clear hB;obtain⟨W5,ai⟩:∃ W5,W5=wc:=⟨_,rfl⟩;subst ai;have h4:=ze (hR.o.below h5);have a6:=ze (Ha.o.below h5 aA);have HW:=h5.size;clear h5 p0 p1 p2 p3 x13 H4 hj;cases ok with
  |true=>
   go_wp2_with fail;go_end0;exact⟨rfl,S1,tv2,_,_,h4.o,rfl,H6.o,hf,by omega,hm.o,rfl,rfl,hE.o.symm,.inr ⟨H5.o,rfl,0,0,by rw[if_pos (by rw[<-h6.o,hE.o];exact hW.o.symm)];exact h6.o,fun _ h _=>⟨by omega,by omega⟩⟩⟩
  |false=>
   have hi:=ze (fun W(hb:Below W5.heap.size W5 W)=>yH base s hs sA sn sk wb h W S1 A n k tv2 L (trips++[(⟨pi,pt,pf,po,-1,-1,-1⟩:Tr)]) T pi pt pf po (h4.o.wd.below hb) ((h4.o.wd.below hb).cas H8.o) hn f0 f1 t0 t1 ((hq.o.below (h4.o.bel HH.o) hD).below hb (by have:=h4.o.wd.bs;omega)) (by have:=h4.o.wd.bs;have:=hb.size;omega));have a8:=ze (fun c W(hb:Below W5.heap.size W5 W)=>YQ h S1 pf dd c W (h4.o.wd.hl.below hb) ⟨hI.o _ (by show(-1000000000:Int)<=pf;omega) (by show pf<=(1000000000:Int);omega),hI.o _ (by show(-1000000000:Int)<=dd;omega) (by show dd<=(1000000000:Int);omega)⟩ am);have HA:S1.nc+1<=S.nc+1:=by omega
   have a0:=ze HA;obtain⟨⟨p0,p1,p2,p3⟩,-⟩:=a6.o.o4;have x13:=(h4.o.wd.bx 13 _ rfl).1;clear hO HA;go_upto_region 10 with(fail)
   go_region_with (first
    |(go_at_call 186;(with_reducible refine(hi.o _ fh.drew).mono ?_);rintro r w6 ⟨⟨mm,rfl,-,hw⟩,hr⟩;have hQ:=ze hw;clear hw;have h8:=ze (show Below W5.heap.size W5 w6 from(Below.refl W5.heap.size W5).drew.trans hr);have p2b:=zf h8.o p2;have x13b:=zf h8.o x13;clear hr)
    |(go_at_call 190;(with_reducible refine(a8.o mm _ h8.o).mono ?_);rintro r w7 ⟨⟨bb,rfl⟩,mq,mc,nc',hN,HC⟩;have a2:=ze hN;have a1:=ze HC;clear hN HC))
   all_goals(
    go_wp2_with fail;go_end0;have h9:=h4.o.below h8.o;exact⟨rfl,S1.calls mc nc' (if(S1.fc (pf,dd)).isSome=true then S1.fc else upd S1.fc (pf,dd) (some (mq,mm))),tv2,_,_,h9.trans (Wd.hall h9.wd a2.o),rfl,H6.o,hf,vD a1.o a0.o,hm.o,rfl,rfl,hE.o.symm,.inr ⟨H5.o,rfl,mq,mm,by rw[hE.o];show(if(S1.fc (pf,dd)).isSome=true then S1.fc else upd S1.fc (pf,dd) (some (mq,mm)))=_;rw[h6.o],hQ.o⟩⟩)
end
section
open Go.RowKit HB Go.Maps CalP HeapP
def kw(t:Tr):Nat:=if 0<=t.al then 0 else if 0<=t.bo then 1 else 2
def kk(l:List Tr):Nat:=(l.map kw).sum
theorem gA:∀{l:List Tr}{i:Nat}{t u:Tr}{d:Nat},l[i]?=some t->kw u+d=kw t->kk (l.set i u)+d=kk l
 |[],i,t,u,d,h,_=>by simp at h
 |x::l,0,t,u,d,h,hd=>by simp at h;subst h;simp[kk];omega
 |x::l,i+1,t,u,d,h,hd=>by
  have:=gA (l:=l) (i:=i) (t:=t) (u:=u) (d:=d) (by simpa using h) hd;simp[kk]at this⊢;omega
theorem ik{l:List Tr}{t:Tr}(h:t∈l)(ht:t.al<0):1<=kk l:=by
 induction l with
 |nil=>cases h
 |cons x l ih=>
  rcases qx.1 h with rfl|h
  ·have:1<=kw t:=by unfold kw;rw[if_neg (by omega)];split<;>omega
   simp[kk];omega
  ·have:=ih h;simp[kk]at this⊢;omega
theorem it(l:List Tr):kk l<=2*l.length:=by
 induction l with
 |nil=>simp[kk]
 |cons x l ih=>
  have:kw x<=2:=by unfold kw;split<;>(try split)<;>omega
  simp[kk]at ih⊢;omega
structure HV(s:Sc)(S:HS):Prop where
 fw:∀ k,(S.fw k).isSome=true↔S.L k≠[]
 wai:∀ k x,x∈S.L k->0<=k.1/\k.1<s.fl/\(k.2.1=1\/k.2.1=-1)/\0<=x.to_/\x.to_<s.fl
 key:∀ k,S.L k≠[]->(s.disp=4/\0<=k.2.2/\k.2.2<s.cars)\/(s.disp≠4/\k.2.2=-1/\(S.fc (k.1,k.2.1)).isSome=true)
 cal:∀ f d n c,S.fc (f,d)=some (n,c)->s.disp≠4/\S.L (f,d,-1)≠[]/\0<=c/\c<s.cars
structure LV(s:Sc)(T:Int)(L:List Ca)(at_:l8)(trips:List Tr)(S:HS)(l:List En)(exv:Nat->Prop):Prop where
 hall:HV s S
 nL:(L.length:Int)=s.cars
 car:∀ x∈L,CarX s x.c
 rid:∀ x∈L,∀r∈x.l,0<=r.to_/\r.to_<s.fl
 cov:∀(i:Nat) t,trips[i]?=some t->t.al<0->(∃k x,x∈S.L k/\x.id=i)\/∃ x∈L,∃r∈x.l,r.id=i
 uni:∀(j:Nat) x,L[j]?=some x->(x.l.map (·.id)).Nodup/\∀ r∈x.l,∀t,trips[r.id.toNat]?=some t->t.al=-1/\t.car=j
 atT:∀ a∈at_,a<=T+1
 evr:∀ e∈l,e.k=1->∀(j:Nat) x a,e.i=j->L[j]?=some x->at_[j]?=some a->x.c.mode=1->0<=x.c.pos+x.c.dir*(e.t-a)/\x.c.pos+x.c.dir*(e.t-a)<=(s.fl-1)*s.gap
 ev:∀ e∈l,e.k=1->∀(j:Nat) x a,e.i=j->L[j]?=some x->at_[j]?=some a->¬ exv j->NextX s (fC s j x.l S) x.c (e.t-a+1)
 lk:∀(j:Nat) x,L[j]?=some x->¬ exv j->(∃f,(fC s j x.l S).W f)->∃ e∈l,e.k=1/\e.i=j
def PV(s:Sc)(last:Int)(P:List Pa):Prop:=∀ p∈P,0<=p.frm/\p.frm<s.fl/\0<=p.to_/\p.to_<s.fl/\p.frm≠p.to_/\p.tick<last
def CL(s:Sc)(M:Int)(P:List Pa)(L:List Ca)(at_:l8)(trips:List Tr)(S:HS):Prop:=
 P=[]->∃ B:Int,B+((kk trips:Int)-1)*qt s<=M/\∀(j:Nat) x a,L[j]?=some x->at_[j]?=some a->(∃f,(fC s j x.l S).W f)->Rm s (fC s j x.l S) x.c (B-a)
def FR(s:Sc)(M T:Int)(P:List Pa)(trips:List Tr):Prop:=P=[]->∃ B:Int,B+((kk trips:Int)-1)*qt s<=M/\T+1+qt s<=B
section
variable{s:Sc}{S S':HS}{l l':List Rid}{j:Nat}
theorem HV.vw(h:HV s S)(hr:∀ r∈l,0<=r.to_/\r.to_<s.fl):(fC s j l S).ok s:=by
 intro f hf;have hU:∀ d,(fC s j l S).U d f->0<=f/\f<s.fl:=fun d⟨_,hd⟩=>by
  have key:∀ c,S.L (f,d,c)≠[]->0<=f/\f<s.fl:=fun c hc=>by
   obtain⟨x,hx⟩:=List.exists_mem_of_ne_nil _ hc;have:=h.wai _ x hx;exact⟨this.1,this.2.1⟩
  rcases hd with⟨n,hn⟩|⟨-,hn⟩
  ·exact key _ (h.cal f d n _ hn).2.1
  ·exact key _ ((h.fw _).1 hn)
 rcases hf with⟨r,h1,h2⟩|hf|hf
 ·rw[<-h2];exact hr r h1
 ·exact hU _ hf
 ·exact hU _ hf
end
section
variable{s:Sc}{v:Vw}{c:Cr}{N:Int}
theorem NextX.rng(hs:s.ok)(hv:v.ok s)(hx:CarX s c)(hN:NextX s v c N)(hm:c.mode=1):0<=c.pos+c.dir*(N-1)/\c.pos+c.dir*(N-1)<=(s.fl-1)*s.gap:=by
 have g0:=hs.gap.1;have hd:=hx.dr hm;obtain⟨F,e,-,h6⟩:=hN.ride hm (by omega);have n1:=hN.n1;have p0:=hx.p0;have p1:=hx.p1;rw[e];rcases ix (N-1) s.gap with h|h
 ·have h0:(-1)*s.gap<F*s.gap:=by rcases hd with e2|e2<;>rw[e2]at e<;>omega
  have h1:F*s.gap<s.fl*s.gap:=by rw[Int.sub_mul]at p1;rcases hd with e2|e2<;>rw[e2]at e<;>omega
  exact gE g0 (by have:=Wb h0 (by omega);omega) (Wb h1 (by omega))
 ·
  have e3:c.pos+c.dir*(N-1-s.gap)=(F-c.dir)*s.gap:=by
   rw[Int.sub_mul,<-e];rcases hd with e2|e2<;>rw[e2]<;>omega
  have h3:=h6 (N-1-s.gap) (F-c.dir) (by omega) (by omega) e3;have h7:¬ v.stop (F-c.dir) c.dir:=fun h=>h3 (.inl h)
  have h2:v.of (F-c.dir) c.dir=c.dir:=by false_or_by_contra;rename_i hc;exact h3 (.inr hc)
  have h5:v.Go (F-c.dir) c.dir:=by
   rcases v.of_or (F-c.dir) c.dir with h|h
   ·rw[h2]at h;omega
   ·rw[h2]at h;exact h
  rcases h5 with h4|⟨w,ha,h8,h9⟩
  ·exact absurd (.inr (.inr ⟨by omega,.inl h4⟩)) h7
  ·have he:=hv w h8;have hF:0<=F/\F<s.fl:=by
    rcases hd with e2|e2<;>rw[e2]at h9 e
    ·have:(-1)*s.gap<F*s.gap:=by omega
     have:=Wb this (by omega);omega
    ·have:F*s.gap<s.fl*s.gap:=by rw[Int.sub_mul]at p1;omega
     have:=Wb this (by omega);omega
   exact gE g0 hF.1 hF.2
theorem CarX.aft{k t a:Int}(hx:CarX s c)(k0:0<=k)(hr:c.mode=1->∃ m,k<=m/\0<=c.pos+c.dir*m/\c.pos+c.dir*m<=(s.fl-1)*s.gap):CarX s (aft c k):=by
 have hm:=xg c k;rcases(show c.mode=0\/c.mode=1\/(c.mode=2\/c.mode=3\/c.mode=4) by have:=hx.m;omega)with h0|h0|h0
 ·rw[Z8 h0];exact hx
 ·obtain⟨m,k1,m0,m1⟩:=hr h0;have hd:=hx.dr h0;have p0:=hx.p0;have p1:=hx.p1;rw[xh h0];refine⟨?_,?_,fun h=>absurd h0 h,hx.dr,hx.d,hx.m,hx.l2,hx.l3,hx.l4⟩
  ·show 0<=c.pos+c.dir*k
   rcases hd with e|e<;>rw[e]at m0 m1⊢<;>omega
  ·show c.pos+c.dir*k<=_
   rcases hd with e|e<;>rw[e]at m0 m1⊢<;>omega
 ·rw[kX h0];refine⟨hx.p0,hx.p1,hx.at_,hx.dr,hx.d,hx.m,fun h=>?_,fun h=>?_,fun h=>?_⟩
  ·have:=hx.l2 h;show c.left-k<=_;omega
  ·have:=hx.l3 h;show c.left-k<=_\/c.left-k<=_;omega
  ·have:=hx.l4 h;show c.left-k<=_;omega
end
section
variable{s:Sc}{T T' M last:Int}{P:List Pa}{L:List Ca}{at_:l8}{trips trips':List Tr}{S S':HS}{l l':List En}{exv exv':Nat->Prop}{j:Nat}{x y:Ca}{a b:Int}{e:En}
theorem FR.cl(hs:s.ok)(h:FR s M T P trips)(H:LV s T L at_ trips S l exv):CL s M P L at_ trips S:=fun hP=>by
 obtain⟨B,h1,h2⟩:=h hP;refine⟨B,h1,fun j x a hj ha hw=>?_⟩;have hm:=jx hj;exact ig hs (H.hall.vw (H.rid x hm)) hw (H.car x hm) (by have:=H.atT a (jx ha);omega)
theorem LV.time(H:LV s T L at_ trips S l exv)(h:T<=T'):LV s T' L at_ trips S l exv:=
 ⟨H.hall,H.nL,H.car,H.rid,H.cov,H.uni,fun a ha=>by have:=H.atT a ha;omega,H.evr,H.ev,H.lk⟩
theorem LV.all(H:LV s T L at_ trips S l exv):LV s T L at_ trips S l (fun _=>True):=
 ⟨H.hall,H.nL,H.car,H.rid,H.cov,H.uni,H.atT,H.evr,fun e he hk j x a h1 h2 h3 h4=>absurd trivial h4,fun j x h1 h2=>absurd trivial h2⟩
theorem LV.mono(H:LV s T L at_ trips S l exv)(h:∀ k,k<L.length->exv k->exv' k):LV s T L at_ trips S l exv':=
 ⟨H.hall,H.nL,H.car,H.rid,H.cov,H.uni,H.atT,H.evr,fun e he hk j x a h1 h2 h3 h4=>H.ev e he hk j x a h1 h2 h3 (fun h5=>h4 (h j (qd.1 h2).1 h5)),fun j x h1 h2=>H.lk j x h1 (fun h5=>h2 (h j (qd.1 h1).1 h5))⟩
theorem LV.pop(H:LV s T L at_ trips S (e::l) exv):LV s T L at_ trips S l (fun k=>exv k\/(e.k=1/\e.i=k)):=
 ⟨H.hall,H.nL,H.car,H.rid,H.cov,H.uni,H.atT,fun f hf=>H.evr f (yP _ hf),fun f hf hk j x a h1 h2 h3 h4=>H.ev f (yP _ hf) hk j x a h1 h2 h3 (fun h=>h4 (.inl h)),fun j x h1 h2 h3=>by
  obtain⟨f,h4,h5,h6⟩:=H.lk j x h1 (fun h=>h2 (.inl h)) h3;rcases qx.1 h4 with rfl|h4
  ·exact absurd (.inr ⟨h5,h6⟩) h2
  ·exact⟨f,h4,h5,h6⟩⟩
theorem LV.next(H:LV s T L at_ trips S l exv){t:Int}(hl:l'.Perm (⟨t,0,0⟩::wo l 0 0)):LV s T L at_ trips S l' exv:=by
 have key:∀ e∈l',e.k=1->e∈l:=fun e he hk=>by
  rcases qx.1 (hl.mem_iff.1 he)with rfl|he
  ·cases hk
  ·exact(zY.1 he).1
 exact⟨H.hall,H.nL,H.car,H.rid,H.cov,H.uni,H.atT,fun e he hk=>H.evr e (key e he hk) hk,fun e he hk=>H.ev e (key e he hk) hk,fun j x h1 h2 h3=>by
  obtain⟨f,h4,h5,h6⟩:=H.lk j x h1 h2 h3;exact⟨f,hl.mem_iff.2 (yP _ (zY.2 ⟨h4,fun h=>by omega⟩)),h5,h6⟩⟩
theorem LV.plan(hs:s.ok)(H:LV s T L at_ trips S l exv)(hj:L[j]?=some x)(ha:at_[j]?=some a)
  (h:(∃N,NextX s (fC s j x.l S) x.c N/\l'.Perm (⟨a+N-1,1,j⟩::wo l 1 j))\/((∀n:Nat,n<128->¬ (fC s j x.l S).W n)/\l'=wo l 1 j)):
  LV s T L at_ trips S l' (fun k=>exv k/\k≠j):=by
 have hm:=jx hj;have hv:=H.hall.vw (j:=j) (H.rid x hm);rcases h with⟨N,hN,hl⟩|⟨h0,rfl⟩
 ·have key:∀ e∈l',e.k=1->e=⟨a+N-1,1,j⟩\/(e∈l/\e.i≠j):=fun e he hk=>by
   rcases qx.1 (hl.mem_iff.1 he)with h|he
   ·exact .inl h
   ·exact .inr ⟨(zY.1 he).1,fun h=>(zY.1 he).2 ⟨hk,h⟩⟩
  refine⟨H.hall,H.nL,H.car,H.rid,H.cov,H.uni,H.atT,fun e he hk k z d h1 h2 h3 h4=>?_,fun e he hk k z d h1 h2 h3 h4=>?_,fun k z h1 h2 h3=>?_⟩
  ·rcases key e he hk with rfl|⟨he,hi⟩
   ·obtain rfl:j=k:=by simp only at h1;omega
    obtain rfl:=ve (h2.symm.trans hj);obtain rfl:=ve (h3.symm.trans ha);have:=hN.rng hs hv (H.car _ hm) h4;rw[show(⟨d+N-1,1,(j:Int)⟩:En).t-d=N-1 from by show d+N-1-d=_;omega];exact this
   ·exact H.evr e he hk k z d h1 h2 h3 h4
  ·rcases key e he hk with rfl|⟨he,hi⟩
   ·obtain rfl:j=k:=by simp only at h1;omega
    obtain rfl:=ve (h2.symm.trans hj);obtain rfl:=ve (h3.symm.trans ha);rw[show(⟨d+N-1,1,(j:Int)⟩:En).t-d+1=N from by show d+N-1-d+1=_;omega];exact hN
   ·exact H.ev e he hk k z d h1 h2 h3 (fun h=>h4 ⟨h,fun e2=>hi (by omega)⟩)
  ·by_cases hk:k=j
   ·subst hk;exact⟨_,hl.mem_iff.2 (xz ..),rfl,rfl⟩
   ·obtain⟨e,h4,h5,h6⟩:=H.lk k z h1 (fun h=>h2 ⟨h,hk⟩) h3;exact⟨e,hl.mem_iff.2 (yP _ (zY.2 ⟨h4,fun h=>hk (by have:=h.2;omega)⟩)),h5,h6⟩
 ·refine⟨H.hall,H.nL,H.car,H.rid,H.cov,H.uni,H.atT,fun e he hk=>H.evr e (zY.1 he).1 hk,fun e he hk k z d h1 h2 h3 h4=>?_,fun k z h1 h2 h3=>?_⟩
  ·exact H.ev e (zY.1 he).1 hk k z d h1 h2 h3 (fun h=>h4 ⟨h,fun e2=>(zY.1 he).2 ⟨hk,by omega⟩⟩)
  ·by_cases hk:k=j
   ·subst hk;obtain rfl:=ve (h1.symm.trans hj);obtain⟨n,hn,hw⟩:=fM hs hv h3;exact absurd hw (h0 n hn)
   ·obtain⟨e,h4,h5,h6⟩:=H.lk k z h1 (fun h=>h2 ⟨h,hk⟩) h3;exact⟨e,zY.2 ⟨h4,fun h=>hk (by have:=h.2;omega)⟩,h5,h6⟩
theorem LV.adv(H:LV s T L at_ trips S l exv)(hj:L[j]?=some x)(ha:at_[j]?=some a)(hab:a<=b)(hbT:b<=T+1)(hrg:x.c.mode=1->∃ m,b-a<=m/\0<=x.c.pos+x.c.dir*m/\x.c.pos+x.c.dir*m<=(s.fl-1)*s.gap)(he:∀ e∈l,e.k=1->e.i=j->b<=e.t):
  LV s T (L.set j {x with c:=aft x.c (b-a)}) (at_.set j b) trips S l exv:=by
 have h9:=jx hj;have get:∀{k:Nat}{z:Ca},(L.set j {x with c:=aft x.c (b-a)})[k]?=some z->(k=j/\z={x with c:=aft x.c (b-a)})\/(k≠j/\L[k]?=some z):=fun h=>by
  rcases zx h with⟨rfl,rfl,-⟩|⟨h1,h2⟩
  ·exact .inl ⟨rfl,rfl⟩
  ·exact .inr ⟨fun e=>h1 e.symm,h2⟩
 have gat:∀{k:Nat}{d:Int},(at_.set j b)[k]?=some d->(k=j/\d=b)\/(k≠j/\at_[k]?=some d):=fun h=>by
  rcases zx h with⟨rfl,rfl,-⟩|⟨h1,h2⟩
  ·exact .inl ⟨rfl,rfl⟩
  ·exact .inr ⟨fun e=>h1 e.symm,h2⟩
 have mem:∀{z:Ca},z∈L.set j {x with c:=aft x.c (b-a)}->z={x with c:=aft x.c (b-a)}\/z∈L:=fun h=>by
  obtain⟨k,hk⟩:=Z5 h;rcases get hk with⟨-,h⟩|⟨-,h⟩
  ·exact .inl h
  ·exact .inr (jx h)
 have hc:=(qd.1 hj).1;refine⟨H.hall,by rw[ye];exact H.nL,fun z hz=>?_,fun z hz=>?_,fun i t h1 h2=>?_,fun k z h1=>?_,fun d hd=>?_,fun e h1 h2 k z d h3 h4 h5 h6=>?_,fun e h1 h2 k z d h3 h4 h5 h6=>?_,fun k z h1 h2 h3=>?_⟩
 ·rcases mem hz with rfl|hz
  ·refine(H.car x h9).aft (t:=0) (a:=0) (by omega) fun h=>?_
   exact hrg h
  ·exact H.car z hz
 ·rcases mem hz with rfl|hz
  ·exact H.rid x h9
  ·exact H.rid z hz
 ·rcases H.cov i t h1 h2 with h|⟨z,hz,r,hr,hi⟩
  ·exact .inl h
  ·obtain⟨k,hk⟩:=Z5 hz;by_cases h0:k=j
   ·subst h0;obtain rfl:=ve (hk.symm.trans hj);exact .inr ⟨{z with c:=aft z.c (b-a)},jx (i:=k) (by rw[vt,if_pos rfl,if_pos hc]),r,hr,hi⟩
   ·exact .inr ⟨z,jx (i:=k) (by rw[vt,if_neg (Ne.symm h0)];exact hk),r,hr,hi⟩
 ·rcases get h1 with⟨rfl,rfl⟩|⟨-,h1⟩
  ·exact H.uni k x hj
  ·exact H.uni k z h1
 ·obtain⟨k,hk⟩:=Z5 hd;rcases gat hk with⟨-,rfl⟩|⟨-,h⟩
  ·exact hbT
  ·exact H.atT d (jx h)
 ·rcases get h4 with⟨rfl,rfl⟩|⟨hk,h4⟩
  ·obtain rfl:d=b:=by rcases gat h5 with⟨-,h⟩|⟨h,-⟩;exact h;exact absurd rfl h
   have h7:x.c.mode=1:=by rw[<-(xg x.c (d-a)).1];exact h6
   have h8:=H.evr e h1 h2 k x a h3 hj ha h7;rw[xh h7]
   show 0<=x.c.pos+x.c.dir*(d-a)+x.c.dir*(e.t-d)/\x.c.pos+x.c.dir*(d-a)+x.c.dir*(e.t-d)<=_
   rw[Int.add_assoc,<-iD,show d-a+(e.t-d)=e.t-a from by omega];exact h8
  ·rcases gat h5 with⟨h,-⟩|⟨-,h5⟩
   ·exact absurd h hk
   ·exact H.evr e h1 h2 k z d h3 h4 h5 h6
 ·rcases get h4 with⟨rfl,rfl⟩|⟨hk,h4⟩
  ·obtain rfl:d=b:=by rcases gat h5 with⟨-,h⟩|⟨h,-⟩;exact h;exact absurd rfl h
   have h7:=H.ev e h1 h2 k x a h3 hj ha h6;have h8:=he e h1 h2 h3;have:=h7.aft (k:=d-a) (by omega) (by omega);rw[show e.t-a+1-(d-a)=e.t-d+1 from by omega]at this;exact this
  ·rcases gat h5 with⟨h,-⟩|⟨-,h5⟩
   ·exact absurd h hk
   ·exact H.ev e h1 h2 k z d h3 h4 h5 h6
 ·rcases get h1 with⟨rfl,rfl⟩|⟨-,h1⟩
  ·exact H.lk k x hj h2 h3
  ·exact H.lk k z h1 h2 h3
end
theorem gH{f:Int×Int->Option (Int×Int)}{x y:Int×Int}{c:Option (Int×Int)}{z:Int×Int}(h:upd f x c y=some z):(y=x/\c=some z)\/(y≠x/\f y=some z):=by
 by_cases e:y=x
 ·subst e;rw[zK]at h;exact .inl ⟨rfl,h⟩
 ·rw[zv _ _ e]at h;exact .inr ⟨e,h⟩
section
variable{s:Sc}{S S':HS}{j:Nat}{l:List Rid}
theorem HV.fw_(h:HV s S)(hne:S.ne->S'.ne)(hnon:∀ k,S'.fw k=none->S'.L k=[])(k:HK):(S'.fw k).isSome=true↔S'.L k≠[]:=by
 refine⟨hne (fun k hk=>(h.fw k).1 hk) k,fun hL=>?_⟩;cases hf:S'.fw k with
 |none=>exact absurd (hnon k hf) hL
 |some z=>rfl
theorem HV.vw_eq(h:HV s S)(h':HV s S')(hfc:S'.fc=S.fc)(hL:∀ f d:Int,S'.L (f,d,(j:Int))≠[]↔S.L (f,d,(j:Int))≠[]):fC s j l S'=fC s j l S:=by
 unfold fC yy
 congr 1
 funext d f
 unfold Ld;rw[hfc];apply propext;have:=hL f d;rw[<-h'.fw,<-h.fw]at this;rw[Bool.eq_iff_iff.2 this]
theorem HV.come(hs:s.ok)(h:HV s S){p:Pa}{n:Nat}(hn:(n:Int)=s.cars)(hp:0<=p.frm/\p.frm<s.fl/\0<=p.to_/\p.to_<s.fl/\p.frm≠p.to_){key:HK}{x:Wt}(hX:ij s n p.frm p.to_ S S' key x)
  (hL:S'.L=qf S.L key (S.L key++[x]))(hnon:∀ k,S'.fw k=none->S'.L k=[]):HV s S':=by
 obtain⟨h7,ht,h3,h2,hc⟩:=hX;have h9:=hs.cars;have h8:key.2.1=1\/key.2.1=-1:=by
  rw[h2];have:=ZX (p.to_-p.frm);rcases this with e|e|e
  ·exact .inr e
  ·exfalso;unfold yw at e;split at e
   ·omega
   ·split at e<;>omega
  ·exact .inl e
 have mem:∀ k y,y∈S'.L k->(y∈S.L k)\/(y=x/\k=key):=fun k y hy=>by
  rw[hL]at hy;by_cases e:k=key
  ·subst e;rw[jp]at hy;rcases yp.1 hy with hy|hy
   ·exact .inl hy
   ·exact .inr ⟨vN.1 hy,rfl⟩
  ·rw[zU _ _ e]at hy;exact .inl hy
 have up:∀ k,S.L k≠[]->S'.L k≠[]:=fun k hk=>by
  rw[hL];by_cases e:k=key
  ·subst e;rw[jp];simp
  ·rw[zU _ _ e];exact hk
 have h6:S'.L key≠[]:=by rw[hL,jp];simp
 have down:∀ k,S'.L k≠[]->S.L k≠[]\/k=key:=fun k hk=>by
  by_cases e:k=key
  ·exact .inr e
  ·rw[hL,zU _ _ e]at hk;exact .inl hk
 refine⟨h.fw_ h7 hnon,fun k y hy=>?_,fun k hk=>?_,fun f d m c hf=>?_⟩
 ·rcases mem k y hy with hy|⟨rfl,rfl⟩
  ·exact h.wai k y hy
  ·exact⟨by omega,by omega,h8,by omega,by omega⟩
 ·rcases hc with⟨h4,h0,hr⟩|⟨h4,h1,m,c,h0,hr⟩
  ·rcases down k hk with hk|rfl
   ·rcases h.key k hk with h5|h5
    ·exact .inl h5
    ·exact absurd h4 h5.1
   ·have:=hr hp.2.1 (by omega) hn;exact .inl ⟨h4,this.1,by omega⟩
  ·right;rcases down k hk with hk|rfl
   ·rcases h.key k hk with h5|h5
    ·exact absurd h5.1 h4
    ·refine⟨h4,h5.2.1,?_⟩;rw[h0];split
     ·exact h5.2.2
     ·by_cases e:(k.1,k.2.1)=(p.frm,yw (p.to_-p.frm))
      ·rw[e,zK];rfl
      ·rw[zv _ _ e];exact h5.2.2
   ·refine⟨h4,h1,?_⟩;rw[h0,h3,h2];split
    ·assumption
    ·rw[zK];rfl
 ·rcases hc with⟨h4,h0,hr⟩|⟨h4,h1,m',c',h0,hr⟩
  ·rw[h0]at hf;exact absurd h4 (h.cal f d m c hf).1
  ·have old:S.fc (f,d)=some (m,c)->s.disp≠4/\S'.L (f,d,-1)≠[]/\0<=c/\c<s.cars:=fun hf=>by
    obtain⟨a1,a2,a3⟩:=h.cal f d m c hf;exact⟨a1,up _ a2,a3⟩
   rw[h0]at hf;split at hf
   ·exact old hf
   ·rcases gH hf with⟨e,e2⟩|⟨-,hf⟩
    ·obtain⟨rfl,rfl⟩:=YK e;obtain⟨rfl,rfl⟩:=YK (ve e2);have:=hr hp.2.1 (by omega) hn;refine⟨h4,?_,this.1,by omega⟩;have e3:key=(p.frm,yw (p.to_-p.frm),-1):=by
      obtain⟨k1,k2,k3⟩:=key;simp only at h3 h2 h1;rw[h3,h2,h1]
     rw[<-e3];exact h6
    ·exact old hf
end
section
variable{s:Sc}{T T' M last:Int}{P:List Pa}{L:List Ca}{at_:l8}{trips trips':List Tr}{S S':HS}{l l':List En}{exv exv':Nat->Prop}{i j:Nat}{x y:Ca}{a b:Int}{e:En}{gone:Bool}
theorem LV.come(hs:s.ok)(H:LV s T L at_ trips S l exv){p:Pa}(hp:0<=p.frm/\p.frm<s.fl/\0<=p.to_/\p.to_<s.fl/\p.frm≠p.to_){key:HK}{w:Wt}(hX:ij s L.length p.frm p.to_ S S' key w)
  (hL:S'.L=qf S.L key (S.L key++[w]))(hnon:∀ k,S'.fw k=none->S'.L k=[])(hid:w.id=(trips.length:Int))(hri:∀ x∈L,∀r∈x.l,0<=r.id/\r.id<(trips.length:Int))(t:Tr):
  LV s T L at_ (trips++[t]) S' l (fun _=>True):=by
 refine⟨H.hall.come hs H.nL hp hX hL hnon,H.nL,H.car,H.rid,fun i u h1 h2=>?_,fun j x hj=>⟨(H.uni j x hj).1,fun r hr u hu=>?_⟩,H.atT,H.evr,fun e he hk j x a h1 h2 h3 h4=>absurd trivial h4,fun j x h1 h2=>absurd trivial h2⟩
 ·rcases YF i trips.length with hi|hi
  ·rw[XV hi]at h1;rcases H.cov i u h1 h2 with⟨k,z,hz,e⟩|h
   ·refine .inl ⟨k,z,?_,e⟩;rw[hL];by_cases e2:k=key
    ·subst e2;rw[jp];exact yp.2 (.inl hz)
    ·rw[zU _ _ e2];exact hz
   ·exact .inr h
  ·have h3:=(qd.1 h1).1;rw[kC,Jp]at h3;exact .inl ⟨key,w,by rw[hL,jp];simp,by rw[hid];omega⟩
 ·have:=hri x (jx hj) r hr;rw[XV (by omega)]at hu;exact(H.uni j x hj).2 r hr u hu
theorem LV.upd(H:LV s T L at_ trips S l exv)(hj:L[i]?=some x)(hall:HV s S')(hc:CarX s y.c)(hr:∀ r∈y.l,0<=r.to_/\r.to_<s.fl)(hb:b<=T+1)(he:∀ e∈l,¬(e.k=1/\e.i=i))
  (cov:∀(k:Nat) t,trips'[k]?=some t->t.al<0->(∃q w,w∈S'.L q/\w.id=k)\/∃ z∈L.set i y,∃r∈z.l,r.id=k)
  (uy:(y.l.map (·.id)).Nodup/\∀ r∈y.l,∀t,trips'[r.id.toNat]?=some t->t.al=-1/\t.car=i)
  (uo:∀(j:Nat) z,j≠i->L[j]?=some z->∀ r∈z.l,∀t,trips'[r.id.toNat]?=some t->t.al=-1/\t.car=j)
  (hv:gone=false->∀(j:Nat) l,j≠i->fC s j l S'=fC s j l S):
  LV s T (L.set i y) (at_.set i b) trips' S' l (fun k=>gone=true\/k=i\/exv k):=by
 have get:∀{k:Nat}{z:Ca},(L.set i y)[k]?=some z->(k=i/\z=y)\/(k≠i/\L[k]?=some z):=fun h=>by
  rcases zx h with⟨rfl,rfl,-⟩|⟨h1,h2⟩
  ·exact .inl ⟨rfl,rfl⟩
  ·exact .inr ⟨fun e=>h1 e.symm,h2⟩
 have gat:∀{k:Nat}{d:Int},(at_.set i b)[k]?=some d->(k=i/\d=b)\/(k≠i/\at_[k]?=some d):=fun h=>by
  rcases zx h with⟨rfl,rfl,-⟩|⟨h1,h2⟩
  ·exact .inl ⟨rfl,rfl⟩
  ·exact .inr ⟨fun e=>h1 e.symm,h2⟩
 have mem:∀{z:Ca},z∈L.set i y->z=y\/z∈L:=fun h=>by
  obtain⟨k,hk⟩:=Z5 h;rcases get hk with⟨-,h⟩|⟨-,h⟩
  ·exact .inl h
  ·exact .inr (jx h)
 refine⟨hall,by rw[ye];exact H.nL,fun z hz=>?_,fun z hz=>?_,cov,fun k z h1=>?_,fun d hd=>?_,fun e h1 h2 k z d h3 h4 h5 h6=>?_,fun e h1 h2 k z d h3 h4 h5 h6=>?_,fun k z h1 h2 h3=>?_⟩
 ·rcases mem hz with rfl|hz
  ·exact hc
  ·exact H.car z hz
 ·rcases mem hz with rfl|hz
  ·exact hr
  ·exact H.rid z hz
 ·rcases get h1 with⟨rfl,rfl⟩|⟨hk,h1⟩
  ·exact uy
  ·exact⟨(H.uni k z h1).1,uo k z hk h1⟩
 ·obtain⟨k,hk⟩:=Z5 hd;rcases gat hk with⟨-,rfl⟩|⟨-,h⟩
  ·exact hb
  ·exact H.atT d (jx h)
 ·have hk:k≠i:=fun e2=>he e h1 ⟨h2,by rw[h3,e2]⟩
  rcases get h4 with⟨h,-⟩|⟨-,h4⟩
  ·exact absurd h hk
  rcases gat h5 with⟨h,-⟩|⟨-,h5⟩
  ·exact absurd h hk
  exact H.evr e h1 h2 k z d h3 h4 h5 h6
 ·have hk:k≠i:=fun e2=>he e h1 ⟨h2,by rw[h3,e2]⟩
  rcases get h4 with⟨h,-⟩|⟨-,h4⟩
  ·exact absurd h hk
  rcases gat h5 with⟨h,-⟩|⟨-,h5⟩
  ·exact absurd h hk
  rw[hv (Bool.eq_false_iff.2 fun h=>h6 (.inl h)) k z.l hk];exact H.ev e h1 h2 k z d h3 h4 h5 (fun h=>h6 (.inr (.inr h)))
 ·have hk:k≠i:=fun e2=>h2 (.inr (.inl e2))
  rcases get h1 with⟨h,-⟩|⟨-,h1⟩
  ·exact absurd h hk
  rw[hv (Bool.eq_false_iff.2 fun h=>h2 (.inl h)) k z.l hk]at h3;exact H.lk k z h1 (fun h=>h2 (.inr (.inr h))) h3
theorem MoveX.car{v:Vw}{c c':Cr}(hs:s.ok)(hv:v.ok s)(hx:CarX s c)(hm:c.mode=0\/c.mode=1)(h:MoveX s v c c'):CarX s c':=by
 have g0:=hs.gap.1;have p0:=hx.p0;have p1:=hx.p1;rcases Wk (c.pos%s.gap=0)with h0|h0
 ·have hp:c.pos/s.gap*s.gap=c.pos:=Int.ediv_mul_cancel (Int.dvd_of_emod_eq_zero h0);have h9:=v.of_rng (c.pos/s.gap) hx.d;rcases Wk (v.stop (c.pos/s.gap) c.dir)with h8|h8
  ·rw[h.stop h0 h8];exact⟨p0,p1,fun _=>h0,fun h=>absurd h (by show¬(2:Int)=1;omega),h9,by show(0:Int)<=2/\(2:Int)<=4;omega,fun _=>Vu _,fun h=>absurd h (by show¬(2:Int)=3;omega),fun h=>absurd h (by show¬(2:Int)=4;omega)⟩
  ·rcases Wk (v.of (c.pos/s.gap) c.dir=0)with h7|h7
   ·rw[h.rest h0 h8 h7];exact⟨p0,p1,fun _=>h0,fun h=>absurd h (by show¬(0:Int)=1;omega),.inl rfl,by show(0:Int)<=0/\(0:Int)<=4;omega,fun h=>absurd h (by show¬(0:Int)=2;omega),fun h=>absurd h (by show¬(0:Int)=3;omega),fun h=>absurd h (by show¬(0:Int)=4;omega)⟩
   ·rw[h.on h0 h8 h7];have ha:On v.W (c.pos/s.gap) (v.of (c.pos/s.gap) c.dir):=by
     refine(Vw.on_of hx.d ?_ h8).2;rcases v.of_or (c.pos/s.gap) c.dir with h|h
     ·exact absurd h h7
     ·rcases h with h|⟨n,h1,h2,-⟩
      ·have hw:v.W (c.pos/s.gap):=by
        rcases(show v.of (c.pos/s.gap) c.dir=1\/v.of (c.pos/s.gap) c.dir=-1 by omega)with e|e<;>rw[e]at h
        ·exact .inr (.inl h)
        ·exact .inr (.inr h)
       exact fM hs hv ⟨_,hw⟩
      ·exact⟨n,h1,h2⟩
    obtain⟨q0,q1,-⟩:=gm g0 hv (gz hx.d h7) (by rw[hp];exact p0) (by rw[hp];exact p1) ha;rw[hp]at q0 q1;exact⟨q0,q1,fun h=>absurd rfl h,fun _=>gz hx.d h7,h9,by show(0:Int)<=1/\(1:Int)<=4;omega,fun h=>absurd h (by show¬(1:Int)=2;omega),fun h=>absurd h (by show¬(1:Int)=3;omega),fun h=>absurd h (by show¬(1:Int)=4;omega)⟩
 ·have h1:c.mode=1:=by
   rcases hm with h|h
   ·exact absurd (hx.at_ (by omega)) h0
   ·exact h
  have hd:=hx.dr h1;rw[h.go h0];have e1:=Int.mul_ediv_add_emod c.pos s.gap;have e2:=iB c.pos (show s.gap≠0 by omega);have e3:=du c.pos (show 0<s.gap by omega);have hq:c.pos+c.dir<=(s.fl-1)*s.gap/\0<=c.pos+c.dir:=by
   have hf:c.pos/s.gap<s.fl-1:=by
    false_or_by_contra
    rename_i hc;have h3:s.gap*(s.fl-1)<=s.gap*(c.pos/s.gap):=XU (by omega) (by omega);rw[cX]at h3;omega
   have h4:s.gap*(c.pos/s.gap+1)<=s.gap*(s.fl-1):=XU (by omega) (by omega);have h5:s.gap*(c.pos/s.gap+1)=s.gap*(c.pos/s.gap)+s.gap:=by rw[iD,Int.mul_one]
   rw[cX s.gap (s.fl-1)]at h4;have h6:0<=s.gap*(c.pos/s.gap):=JE (by omega) (Wi p0 (by omega));rcases hd with e|e<;>rw[e]<;>omega
  exact⟨hq.2,hq.1,fun h=>absurd h1 h,hx.dr,hx.d,hx.m,hx.l2,hx.l3,hx.l4⟩
end
structure Still(s:Sc)(i:Nat)(x y:Ca)(trips trips':List Tr)(S S':HS)(gone:Bool):Prop where
 st:gr s (fC s i x.l S) x.c y.c
 l:y.l=x.l
 tr:trips'=trips
 L:S'.L=S.L
 fc:S'.fc=S.fc
 g:gone=false
structure Moves(s:Sc)(i:Nat)(x y:Ca)(trips trips':List Tr)(S S':HS)(gone:Bool):Prop where
 w:∃ f,(fC s i x.l S).W f
 k:kk trips'+1=kk trips
section
variable{s:Sc}{T T' M last tick N:Int}{P:List Pa}{L:List Ca}{at_:l8}{trips trips':List Tr}{S S':HS}{l l':List En}{exv exv':Nat->Prop}{i j:Nat}{x y:Ca}{a b:Int}{e:En}{gone:Bool}
theorem HV.same(h:HV s S)(hne:S.ne->S'.ne)(hnon:∀ k,S'.fw k=none->S'.L k=[])(hL:S'.L=S.L)(hfc:S'.fc=S.fc):HV s S':=
 ⟨h.fw_ hne hnon,by rw[hL];exact h.wai,by rw[hL,hfc];exact h.key,by rw[hL,hfc];exact h.cal⟩
theorem fR(s:Sc)(i:Nat)(f d:Int):(s.disp=4/\zL s i f d=(f,d,(i:Int)))\/(s.disp≠4/\zL s i f d=(f,d,-1)):=by
 unfold zL;by_cases h:s.disp=4
 ·rw[if_pos h];exact .inl ⟨h,rfl⟩
 ·rw[if_neg h];exact .inr ⟨h,rfl⟩
theorem SvX.still{f D:Int}(h:HV s S)(hx:SvX s i f D S S' gone)(hL:S'.L=S.L):S'.fc=S.fc/\gone=false:=by
 rcases hx.2 with⟨h1,h2,-⟩|⟨h1,h2,h3,h4⟩
 ·exact⟨h1,h2⟩
 ·have hn:S.fc (f,D)=none:=by
   cases hf:S.fc (f,D)with
   |none=>rfl
   |some z=>
    exfalso;have h5:=(h.cal f D z.1 z.2 hf).2.1;rcases fR s i f D with⟨e,-⟩|⟨-,e⟩
    ·exact h1 e
    ·rw[hL,e]at h2;exact h5 h2
  refine⟨?_,by rw[h4,hn];rfl⟩;rw[h3]
  funext k
  by_cases e:k=(f,D)
  ·subst e;rw[zK,hn]
  ·rw[zv _ _ e]
theorem i8{f D:Int}(h:HV s S)(l:List Rid)(hn:D=0\/s.cap<=(l.length:Int)\/S.L (zL s i f D)=[]):D=0\/¬ (fC s i l S).U D f:=by
 rcases hn with h0|h0|h0
 ·exact .inl h0
 ·refine .inr fun⟨h1,_⟩=>?_
  omega
 ·refine .inr fun⟨_,h1⟩=>?_
  rcases h1 with⟨n,h1⟩|⟨-,h1⟩
  ·have h5:=h.cal f D n _ h1;rcases fR s i f D with⟨e,-⟩|⟨-,e⟩
   ·exact h5.1 e
   ·rw[e]at h0;exact h5.2.1 h0
  ·have h5:=(h.fw _).1 h1;rcases h.key _ h5 with⟨h6,-⟩|⟨-,h6,-⟩
   ·rcases fR s i f D with⟨-,e⟩|⟨e,-⟩
    ·rw[e]at h0;exact h5 h0
    ·exact e h6
   ·have h6:(i:Int)=-1:=h6;omega
theorem LV.still(hs:s.ok)(H:LV s T L at_ trips S l exv)(hj:L[i]?=some x)(h:Still s i x y trips trips' S S' gone)(hne:S.ne->S'.ne)(hnon:∀ k,S'.fw k=none->S'.L k=[])(hc:CarX s y.c)
  (hb:b<=T+1)(he:∀ e∈l,¬(e.k=1/\e.i=i)):LV s T (L.set i y) (at_.set i b) trips' S' l (fun k=>gone=true\/k=i\/exv k):=by
 have hm:=jx hj;have hall:=H.hall.same hne hnon h.L h.fc;have h6:=(qd.1 hj).1;obtain⟨-,hl,rfl,hL,h4,-⟩:=h;refine H.upd hj hall hc (by rw[hl];exact H.rid x hm) hb he (fun k t h1 h2=>?_) (by rw[hl];exact H.uni i x hj) (fun j z h5 hz=>(H.uni j z hz).2) (fun _ j l h5=>H.hall.vw_eq hall h4 (fun f d=>by rw[hL]));rcases H.cov k t h1 h2 with⟨q,w,hw,e⟩|⟨z,hz,r,hr,e⟩
 ·exact .inl ⟨q,w,by rw[hL];exact hw,e⟩
 ·obtain⟨m,h3⟩:=Z5 hz;by_cases h0:m=i
  ·subst h0;obtain rfl:=ve (h3.symm.trans hj);exact .inr ⟨y,jx (i:=m) (by rw[vt,if_pos rfl,if_pos h6]),r,by rw[hl];exact hr,e⟩
  ·exact .inr ⟨z,jx (i:=m) (by rw[vt,if_neg (Ne.symm h0)];exact h3),r,hr,e⟩
theorem Xn(hi:Inv T trips S.L (L.map (·.l)))(hz:x∈L){r:Rid}(hr:r∈x.l):0<=r.id/\r.id<(trips.length:Int)/\∀ t,trips[r.id.toNat]?=some t->0<=t.bo:=hi.ri x.l (Vl.2 ⟨x,hz,rfl⟩) r hr
theorem CarX.open_{c:Cr}(hs:s.ok)(hx:CarX s c)(hm:c.mode≠1){D lf:Int}{wt:Bool}(hD:D=0\/D=1\/D=-1)(h:lf<=s.tr\/lf<=s.dw):CarX s ⟨c.pos,D,3,lf,wt⟩:=
 ⟨hx.p0,hx.p1,fun _=>hx.at_ hm,fun h=>absurd h (by show¬(3:Int)=1;omega),hD,by show(0:Int)<=3/\(3:Int)<=4;omega,fun h=>absurd h (by show¬(3:Int)=2;omega),fun _=>h,fun h=>absurd h (by show¬(3:Int)=4;omega)⟩
theorem CarX.shut{c:Cr}(hs:s.ok)(hx:CarX s c)(hm:c.mode≠1){D:Int}{wt:Bool}(hD:D=0\/D=1\/D=-1):CarX s ⟨c.pos,D,4,s.cl,wt⟩:=
 ⟨hx.p0,hx.p1,fun _=>hx.at_ hm,fun h=>absurd h (by show¬(4:Int)=1;omega),hD,by show(0:Int)<=4/\(4:Int)<=4;omega,fun h=>absurd h (by show¬(4:Int)=2;omega),fun h=>absurd h (by show¬(4:Int)=3;omega),fun _=>Vu _⟩
theorem LV.step(hs:s.ok)(H:LV s T L at_ trips S l exv)(hj:L[i]?=some x)(hi:Inv T trips S.L (L.map (·.l)))(hT:0<=T)(hF:CarF s i x.c y.c x.l S S' gone)(hR:CarR s i T x.c x.l trips S.L y.c y.l trips' S'.L)
  (hnon:∀ k,S'.fw k=none->S'.L k=[])(hb:b<=T+1)(he:∀ e∈l,¬(e.k=1/\e.i=i)):
  LV s T (L.set i y) (at_.set i b) trips' S' l (fun k=>gone=true\/k=i\/exv k)/\(Still s i x y trips trips' S S' gone\/Moves s i x y trips trips' S S' gone):=by
 have hm:=jx hj;have hU:=(qd.1 hj).1;have hx:=H.car x hm;have hv:=H.hall.vw (j:=i) (H.rid x hm);have quiet:∀(h:Still s i x y trips trips' S S' gone)(hc:CarX s y.c),LV s T (L.set i y) (at_.set i b) trips' S' l (fun k=>gone=true\/k=i\/exv k)/\(Still s i x y trips trips' S S' gone\/Moves s i x y trips trips' S S' gone):=
  fun h hc=>⟨H.still hs hj h hF.ne hnon hc hb he,.inl h⟩
 have others:∀{k:Nat}{z:Ca},L[k]?=some z->k≠i->z∈L.set i y:=fun{k z} h hk=>jx (i:=k) (by rw[vt,if_neg (Ne.symm hk)];exact h)
 have own:y∈L.set i y:=jx (i:=i) (by rw[vt,if_pos rfl,if_pos hU]);rcases hR with⟨h1,-,h3,h4,h5⟩|⟨h1,h2,h3,h4,h5⟩|⟨h1,h2,h3,h4,h5,h6⟩|⟨h1,h2,D,-,-,hS⟩
 ·obtain⟨rfl,g⟩:=hF.no (fun h=>by have:=h.1;omega);exact quiet ⟨.inl ⟨h1,hF.mv h1⟩,h3,h4,rfl,rfl,g⟩ ((hF.mv h1).car hs hv hx h1)
 ·obtain⟨rfl,g⟩:=hF.no (fun h=>by have:=h.1;omega);refine quiet ⟨.inr (.inl ⟨h1,h2⟩),h3,h4,rfl,rfl,g⟩ ?_;rw[h2];have h4:=hx.l4 h1;split
  ·exact⟨hx.p0,hx.p1,fun _=>hx.at_ (by omega),fun h=>absurd h (by show¬(0:Int)=1;omega),hx.d,by show(0:Int)<=0/\(0:Int)<=4;omega,fun h=>absurd h (by show¬(0:Int)=2;omega),fun h=>absurd h (by show¬(0:Int)=3;omega),fun h=>absurd h (by show¬(0:Int)=4;omega)⟩
  ·exact⟨hx.p0,hx.p1,hx.at_,hx.dr,hx.d,hx.m,fun h=>by have:=hx.l2 h;show x.c.left-1<=_;omega,fun h=>by have:=hx.l3 h;show x.c.left-1<=_\/x.c.left-1<=_;omega,fun h=>by have:=hx.l4 h;show x.c.left-1<=_;omega⟩
 ·obtain⟨rfl,g⟩:=hF.no (fun h=>h2 h.2);refine quiet ⟨.inr (.inr (.inl ⟨h1,h2,h3⟩)),h4,h5,rfl,rfl,g⟩ ?_;rw[h3];exact⟨hx.p0,hx.p1,hx.at_,hx.dr,hx.d,hx.m,fun h=>by have:=hx.l2 h;show x.c.left-1<=_;omega,fun h=>by have:=hx.l3 h;show x.c.left-1<=_\/x.c.left-1<=_;omega,fun h=>by have:=hx.l4 h;show x.c.left-1<=_;omega⟩
 ·obtain⟨hI,hl⟩:=hF.sv h1 h2;have hB:x.c.mode≠1:=by omega
  have hG:=SvRel.car hS hs;rw[hG.2.1]at hI hl;have hD:D=0\/D=1\/D=-1:=by rw[hI];exact Vw.of_rng _ _ hx.d
  have h0:D=(fC s i x.l S).of (x.c.pos/s.gap) x.c.dir:=hI;rcases hS with⟨k,r,t,k1,k2,k3,k4,k5,k6,k7⟩|⟨w,tl,t,k0,k1,k2,k3,k4,k5,k6,k7,k8⟩|⟨k0,k1,k2,k3,k4,k5⟩
  ·
   have hC:=jx k1;obtain⟨hg,g⟩:=hl.still H.hall k7;have hall:=H.hall.same hF.ne hnon k7 hg;have hX:=(H.uni i x hj).2 r hC t k3;have hV:=(Xn hi hm hC).2.2 t k3;have hZ:=(Xn hi hm hC).1;have sub:∀ z∈y.l,z∈x.l:=fun z hz=>by
    rw[k5]at hz;rcases yp.1 hz with h|h
    ·exact List.mem_of_mem_take h
    ·exact List.mem_of_mem_drop h
   have hW:y.l.Sublist x.l:=by
    rw[k5];have:=List.Sublist.append (List.Sublist.refl (x.l.take k)) (List.drop_sublist_drop_left x.l (Ut k))
    rwa [aa]at this
   have nd:=(H.uni i x hj).1;have hL:∀ z∈y.l,z.id≠r.id:=fun z hz e=>by
    have hJ:=(qd.1 k1);have hY:x.l=x.l.take k++r::x.l.drop (k+1):=by
     obtain⟨h7,h8⟩:=hJ;rw[<-h8,List.getElem_cons_drop,aa]
    rw[hY,XW,JF,List.nodup_append]at nd;rw[k5]at hz;rcases yp.1 hz with h|h
    ·exact nd.2.2 z.id (Vl.2 ⟨z,h,rfl⟩) r.id (xz ..) e
    ·exact(List.nodup_cons.1 nd.2.1).1 (Vl.2 ⟨z,h,e⟩)
   have keep:∀ z∈x.l,z.id≠r.id->z∈y.l:=fun z hz hL=>by
    obtain⟨m,hd⟩:=Z5 hz;rw[k5];rcases Nat.lt_trichotomy m k with h|h|h
    ·exact yp.2 (.inl (jx (i:=m) (by rw[iC,if_pos h];exact hd)))
    ·subst h;rw[hd]at k1;cases k1;exact absurd rfl hL
    ·exact yp.2 (.inr (jx (i:=m-(k+1)) (by rw[List.getElem?_drop];rw[show k+1+(m-(k+1))=m from by omega];exact hd)))
   have old:∀{n:Nat}{u:Tr},trips'[n]?=some u->n≠r.id.toNat->trips[n]?=some u:=fun{n u} h hn=>by
    rw[k6,vt,if_neg (Ne.symm hn)]at h;exact h
   refine⟨H.upd hj hall (by rw[k4];exact hx.open_ hs hB hD (.inl (Vu _))) (fun z hz=>H.rid x hm z (sub z hz)) hb he (fun n u h8 h9=>?_) ⟨nd.sublist (hW.map _),fun z hz u hu=>?_⟩ (fun j z hy hz q hq u hu=>?_) (fun _ j l hy=>H.hall.vw_eq hall hg (fun f d=>by rw[k7])),
    .inr ⟨⟨x.c.pos/s.gap,.inl ⟨r,hC,k2⟩⟩,?_⟩⟩
   ·by_cases e:n=r.id.toNat
    ·subst e;rw[k6,vt,if_pos rfl]at h8;split at h8
     ·have h8:=ve h8;rw[<-h8]at h9;have h9:T<0:=h9;omega
     ·cases h8
    ·rcases H.cov n u (old h8 e) h9 with⟨q,w,hw,e2⟩|⟨z,hz,q,hq,e2⟩
     ·exact .inl ⟨q,w,by rw[k7];exact hw,e2⟩
     ·obtain⟨m,hd⟩:=Z5 hz;by_cases ht:m=i
      ·subst ht;obtain rfl:=ve (hd.symm.trans hj);exact .inr ⟨y,own,q,keep q hq (by omega),e2⟩
      ·exact .inr ⟨z,others hd ht,q,hq,e2⟩
   ·have h9:=(Xn hi hm (sub z hz)).1;exact(H.uni i x hj).2 z (sub z hz) u (old hu (fun e=>hL z hz (by omega)))
   ·have h9:=(Xn hi (jx hz) hq).1;by_cases e:q.id.toNat=r.id.toNat
    ·have ho:=(H.uni j z hz).2 q hq t (by rw[e];exact k3);exact absurd (by omega) hy
    ·exact(H.uni j z hz).2 q hq u (old hu e)
   ·rw[k6];exact gA k3 (by unfold kw;rw[if_pos (by exact hT),if_neg (by rw[hX.1];omega),if_pos hV])
  ·
   have hO:w∈S.L (zL s i (x.c.pos/s.gap) D):=by rw[k3];exact xz ..
   have hw:=hi.wt _ w hO;have hE:=hw.2.2 t k4;have hP:=H.hall.wai _ w hO;generalize hM:zL s i (x.c.pos/s.gap) D=q0 at*;have hp:∀ q,q≠q0->S'.L q=S.L q:=fun q hq=>by rw[k8,zU _ _ hq]
   have hN:S'.L q0=tl:=by rw[k8,jp]
   have hQ:∀ q,S'.L q≠[]->S.L q≠[]:=fun q hq=>by
    by_cases e:q=q0
    ·subst e;rw[k3];simp
    ·rw[hp q e]at hq;exact hq
   have hA:=fR s i (x.c.pos/s.gap) D;rw[hM]at hA;have hall:HV s S':=by
    refine⟨H.hall.fw_ hF.ne hnon,fun q z hz=>?_,fun q hq=>?_,fun f d n c hf=>?_⟩
    ·by_cases e:q=q0
     ·subst e;rw[hN]at hz;exact H.hall.wai q z (by rw[k3];exact yP _ hz)
     ·rw[hp q e]at hz;exact H.hall.wai q z hz
    ·rcases H.hall.key q (hQ q hq)with h|⟨h,h9,ho⟩
     ·exact .inl h
     ·refine .inr ⟨h,h9,?_⟩;rcases hl.2 with⟨a1,-,-⟩|⟨a1,a2,a3,-⟩
      ·rw[a1];exact ho
      ·rw[a3];by_cases e:(q.1,q.2.1)=(x.c.pos/s.gap,D)
       ·exfalso;have e2:q=q0:=by
         rcases hA with⟨b1,-⟩|⟨-,b2⟩
         ·exact absurd b1 a1
         ·obtain⟨q1,q2,q3⟩:=q;simp only at h9 e;obtain⟨e3,e4⟩:=YK e;rw[b2,h9,e3,e4]
        subst e2;rw[hM]at a2;exact hq a2
       ·rw[zv _ _ e];exact ho
    ·have old:S.fc (f,d)=some (n,c)->(S'.L (f,d,-1)≠[]\/(f,d,-1)=q0/\s.disp≠4)/\s.disp≠4/\0<=c/\c<s.cars:=fun hf=>by
      obtain⟨a1,a2,a3,a4⟩:=H.hall.cal f d n c hf;refine⟨?_,a1,a3,a4⟩;by_cases e:(f,d,(-1:Int))=q0
      ·exact .inr ⟨e,a1⟩
      ·rw[hp _ e];exact .inl a2
     rcases hl.2 with⟨a1,-,a3⟩|⟨a1,a2,a3,-⟩
     ·rw[a1]at hf;obtain⟨b1,b2,b3,b4⟩:=old hf;refine⟨b2,?_,b3,b4⟩;rcases b1 with b1|⟨b1,-⟩
      ·exact b1
      ·rcases a3 with a3|a3|a3
       ·exact absurd a3 b2
       ·rw[a3];exact(H.hall.cal f d n c hf).2.1
       ·rw[hM]at a3;rw[b1];exact a3
     ·rw[a3]at hf;rcases gH hf with⟨-,e⟩|⟨e,hf⟩
      ·cases e
      ·obtain⟨b1,b2,b3,b4⟩:=old hf;refine⟨b2,?_,b3,b4⟩;rcases b1 with b1|⟨b1,-⟩
       ·exact b1
       ·rcases hA with⟨c1,-⟩|⟨-,c2⟩
        ·exact absurd c1 a1
        ·rw[c2]at b1;obtain⟨e1,e2⟩:=YK b1;obtain⟨e2,-⟩:=YK e2;exact absurd (by rw[e1,e2]) e
   have old:∀{n:Nat}{u:Tr},trips'[n]?=some u->n≠w.id.toNat->trips[n]?=some u:=fun{n u} h hn=>by
    rw[k7,vt,if_neg (Ne.symm hn)]at h;exact h
   have new:∀{u:Tr},trips'[w.id.toNat]?=some u->u={t with car:=(i:Int),bo:=T}:=fun{u} h=>by
    rw[k7,vt,if_pos rfl]at h;split at h
    ·exact(ve h).symm
    ·cases h
   have nor:∀{z:Ca}{q:Rid},z∈L->q∈z.l->q.id≠w.id:=fun{z q} hz hq e=>by
    have h9:=(Xn hi hz hq).2.2 t (by rw[e];exact k4);omega
   refine⟨H.upd hj hall (by rw[k5];exact hx.open_ hs hB hD (.inl (Vu _))) (fun z hz=>?_) hb he (fun n u h8 h9=>?_) ⟨?_,fun z hz u hu=>?_⟩ (fun j z hy hz q hq u hu=>?_) (fun g j l hy=>?_),.inr ⟨?_,?_⟩⟩
   ·rw[k6]at hz;rcases yp.1 hz with h|h
    ·exact H.rid x hm z h
    ·obtain rfl:=vN.1 h;exact⟨hP.2.2.2.1,hP.2.2.2.2⟩
   ·by_cases e:n=w.id.toNat
    ·exact .inr ⟨y,own,⟨w.id,w.to_⟩,by rw[k6];simp,by show w.id=_;omega⟩
    ·rcases H.cov n u (old h8 e) h9 with⟨q,z,hz,e2⟩|⟨z,hz,q,hq,e2⟩
     ·refine .inl ⟨q,z,?_,e2⟩;by_cases e3:q=q0
      ·subst e3;rw[k3]at hz;rw[hN];rcases qx.1 hz with rfl|hz
       ·exact absurd (by omega) e
       ·exact hz
      ·rw[hp q e3];exact hz
     ·obtain⟨m,hd⟩:=Z5 hz;by_cases ht:m=i
      ·subst ht;obtain rfl:=ve (hd.symm.trans hj);exact .inr ⟨y,own,q,by rw[k6];exact yp.2 (.inl hq),e2⟩
      ·exact .inr ⟨z,others hd ht,q,hq,e2⟩
   ·rw[k6,XW,List.nodup_append];refine⟨(H.uni i x hj).1,by simp,fun a ha b hb e=>?_⟩;obtain⟨q,hq,rfl⟩:=Vl.1 ha;simp only[JF,Vm,vN]at hb;exact nor hm hq (e.trans hb)
   ·rw[k6]at hz;rcases yp.1 hz with h|h
    ·have h9:=(Xn hi hm h).1;have ho:=nor hm h;exact(H.uni i x hj).2 z h u (old hu (by have:=hw.1;omega))
    ·obtain rfl:=vN.1 h;have:=new hu;subst this;exact⟨hE.2,rfl⟩
   ·have h9:=(Xn hi (jx hz) hq).1;have ho:=nor (jx hz) hq;exact(H.uni j z hz).2 q hq u (old hu (by have:=hw.1;omega))
   ·have hg:S'.fc=S.fc:=by
     rcases hl.2 with⟨a1,-,-⟩|⟨-,-,a3,a4⟩
     ·exact a1
     ·rw[a3]
      funext q
      by_cases e:q=(x.c.pos/s.gap,D)
      ·subst e;rw[zK];rw[g]at a4;cases hf:S.fc (x.c.pos/s.gap,D)with
       |none=>rfl
       |some z=>rw[hf]at a4;cases a4
      ·rw[zv _ _ e]
    refine H.hall.vw_eq hall hg fun f d=>?_
    rw[hp];intro e;rcases hA with⟨-,b2⟩|⟨-,b2⟩
    ·rw[b2]at e;have:=(YK (YK e).2).2;omega
    ·rw[b2]at e;have:=(YK (YK e).2).2;omega
   ·rcases Vw.of_or (fC s i x.l S) (x.c.pos/s.gap) x.c.dir with h|h
    ·rw[<-h0]at h;exact absurd h k1
    ·rw[<-h0]at h;rcases h with h|⟨n,-,h,-⟩
     ·refine⟨x.c.pos/s.gap,?_⟩;rcases hD with e|e|e
      ·exact absurd e k1
      ·rw[e]at h;exact .inr (.inl h)
      ·rw[e]at h;exact .inr (.inr h)
     ·exact⟨_,h⟩
   ·rw[k7];refine gA k4 ?_;have e2:kw t=2:=by unfold kw;rw[if_neg (by rw[hE.2];omega),if_neg (by rw[hE.1];omega)]
    have e1:kw {t with car:=(i:Int),bo:=T}=1:=by unfold kw;rw[if_neg (by show¬0<=t.al;rw[hE.2];omega),if_pos (by exact hT)]
    rw[e1,e2]
  ·
   obtain⟨hg,g⟩:=hl.still H.hall k4;refine quiet ⟨.inr (.inr (.inr ⟨h1,h2,fun⟨r,hr,e⟩=>k0 r hr e,?_,?_⟩)),k2,k3,k4,hg,g⟩ ?_
   ·have:=i8 (i:=i) H.hall x.l k1;rw[h0]at this;exact this
   ·rw[k5,h0]
   ·rw[k5];split
    ·exact hx.shut hs hB hD
    ·exact hx.open_ hs hB hD (.inr (Vu _))
def CP(s:Sc)(M tick:Int)(P:List Pa)(L:List Ca)(at_:l8)(trips:List Tr)(S:HS)(i:Nat):Prop:=
 P=[]->∃ B:Int,B+((kk trips:Int)-1)*qt s<=M/\(∀(j:Nat) x a,j≠i->L[j]?=some x->at_[j]?=some a->(∃f,(fC s j x.l S).W f)->Rm s (fC s j x.l S) x.c (B-a))/\
  ∀x,L[i]?=some x->(∃f,(fC s i x.l S).W f)->tick+1<=B/\∀ c',gr s (fC s i x.l S) x.c c'->Rm s (fC s i x.l S) c' (B-(tick+1))
theorem CL.own(h:CL s M P L at_ trips S)(hj:L[i]?=some x)(ha:at_[i]?=some a)(hN:NextX s (fC s i x.l S) x.c (tick-a+1)):
  CP s M tick P (L.set i {x with c:=aft x.c (tick-a)}) (at_.set i tick) trips S i:=fun hP=>by
 obtain⟨B,h1,h2⟩:=h hP;refine⟨B,h1,fun j z d h0 hz hd hw=>?_,fun z hz hw=>?_⟩
 ·rw[vt,if_neg (Ne.symm h0)]at hz hd;exact h2 j z d hz hd hw
 ·rw[vt,if_pos rfl,if_pos (qd.1 hj).1]at hz;obtain rfl:=ve hz;obtain⟨h3,h4⟩:=(h2 i x a hj ha hw).o hN;refine⟨by omega,fun c' hc=>?_⟩;have:=h4 c' (by rw[show tick-a+1-1=tick-a from by omega];exact hc);rw[show B-(tick+1)=B-a-(tick-a+1)from by omega];exact this
theorem CP.step(hs:s.ok)(h:CP s M tick P L at_ trips S i)(hj:L[i]?=some x)(hr:Still s i x y trips trips' S S' gone\/Moves s i x y trips trips' S S' gone)
  (hv:HV s S)(hv':HV s S')(H':LV s tick (L.set i y) (at_.set i (tick+1)) trips' S' l exv):
  (gone=true->FR s M tick P trips')/\CL s M P (L.set i y) (at_.set i (tick+1)) trips' S':=by
 have h3:=(qd.1 hj).1;have hq:0<=qt s:=by
  have:=hs.opn;have:=hs.tr;have:=hs.dw;have:=hs.cl;have:=hs.gap;have:=hs.fl;have ht:0<=(s.fl-1)*s.gap:=JE (by omega) (by omega);unfold qt;omega
 rcases hr with⟨h1,h2,rfl,h4,h5,h6⟩|⟨h1,h2⟩
 ·refine⟨fun g=>absurd g (by rw[h6];decide),fun hP=>?_⟩;obtain⟨B,b1,b2,b3⟩:=h hP;refine⟨B,b1,fun j z d hz hd hw=>?_⟩;have h7:∀(j:Nat) l,fC s j l S'=fC s j l S:=fun j l=>hv.vw_eq hv' h5 fun f d=>by rw[h4]
  rw[h7]at hw⊢;by_cases h0:j=i
  ·subst h0;rw[vt,if_pos rfl]at hz hd;rw[if_pos h3]at hz;split at hd
   ·obtain rfl:=ve hz;obtain rfl:=ve hd;rw[h2]at hw⊢;exact(b3 x hj hw).2 _ h1
   ·cases hd
  ·rw[vt,if_neg (Ne.symm h0)]at hz hd;exact b2 j z d h0 hz hd hw
 ·have hF:FR s M tick P trips':=fun hP=>by
   obtain⟨B,b1,b2,b3⟩:=h hP;have b4:=(b3 x hj h1).1;refine⟨B+qt s,?_,by omega⟩;have e:((kk trips:Int)-1)=(kk trips':Int):=by omega
   rw[e]at b1;have e2:((kk trips':Int)-1)*qt s=(kk trips':Int)*qt s-qt s:=by rw[Int.sub_mul];omega
   rw[e2];omega
  exact⟨fun _=>hF,hF.cl hs H'⟩
theorem FR.end_(hM:last+2*(((trips.length+P.length:Nat):Int))*qt s<=M)(hq:0<=qt s)(hT:T+1<=last):FR s M T P trips:=fun hP=>by
 subst hP;have hk:=it trips;refine⟨last+qt s,?_,by omega⟩;have e:last+qt s+((kk trips:Int)-1)*qt s=last+(kk trips:Int)*qt s:=by rw[Int.sub_mul];omega
 rw[e];have:(kk trips:Int)*qt s<=2*(((trips.length+([]:List Pa).length:Nat):Int))*qt s:=xB (by simp;omega) hq;omega
theorem LV.done(hs:s.ok)(H:LV s T L at_ trips S l (fun _=>False))(hC:CL s M P L at_ trips S)(hP:P=[])(hl:∀ e∈l,M<=e.t)(hL:at_.length=L.length):∀ t∈trips,0<=t.al:=by
 intro t ht
 false_or_by_contra
 rename_i hc;have h5:t.al<0:=by omega
 have hk:=ik ht h5;have hq:0<=qt s:=by
  have:=hs.opn;have:=hs.tr;have:=hs.dw;have:=hs.cl;have:=hs.gap;have:=hs.fl;have ht:0<=(s.fl-1)*s.gap:=JE (by omega) (by omega);unfold qt;omega
 obtain⟨B,b1,b2⟩:=hC hP;have hB:B<=M:=by
  have:0<=((kk trips:Int)-1)*qt s:=JE (by omega) hq;omega
 have key:∀(j:Nat) x,L[j]?=some x->(∃f,(fC s j x.l S).W f)->False:=fun j x hj hw=>by
  obtain⟨e,h1,h2,h3⟩:=H.lk j x hj id hw;have h7:j<at_.length:=by rw[hL];exact(qd.1 hj).1
  have ha:=kD h7;have hN:=H.ev e h1 h2 j x _ h3 hj ha id;have:=((b2 j x _ hj ha hw).o hN).1;have:=hl e h1;omega
 obtain⟨i,hi⟩:=Z5 ht;rcases H.cov i t hi h5 with⟨q,w,hw,-⟩|⟨z,hz,r,hr,-⟩
 ·have h6:S.L q≠[]:=List.ne_nil_of_mem hw;have he:=H.hall.wai q w hw;have go:∀ c:Int,0<=c->c<s.cars->Ld S.fc S.fw c q.2.1 q.1->False:=fun c c0 c1 hd=>by
   obtain⟨j,rfl⟩:=QM c0;have h8:j<L.length:=by have:=H.nL;omega
   have hj:=kD h8;generalize L[j]=x at hj;refine key j x hj ?_;by_cases h0:(x.l.length:Int)<s.cap
   ·have hU:(fC s j x.l S).U q.2.1 q.1:=⟨h0,hd⟩;refine⟨q.1,?_⟩;rcases he.2.2.1 with e|e<;>rw[e]at hU
    ·exact .inr (.inl hU)
    ·exact .inr (.inr hU)
   ·have h9:x.l≠[]:=fun e=>by
     rw[e]at h0;have:=hs.cap;simp at h0;omega
    obtain⟨r,hr⟩:=List.exists_mem_of_ne_nil _ h9;exact⟨r.to_,.inl ⟨r,hr,rfl⟩⟩
  rcases H.hall.key q h6 with⟨h4,k0,k1⟩|⟨h4,k0,k1⟩
  ·exact go q.2.2 k0 k1 (.inr ⟨k0,(H.hall.fw _).2 h6⟩)
  ·cases hf:S.fc (q.1,q.2.1)with
   |none=>rw[hf]at k1;cases k1
   |some z=>
    have:=H.hall.cal q.1 q.2.1 z.1 z.2 hf;exact go z.2 this.2.2.1 this.2.2.2 (.inl ⟨z.1,hf⟩)
 ·obtain⟨j,hj⟩:=Z5 hz;exact key j z hj ⟨r.to_,.inl ⟨r,hr,rfl⟩⟩
end
theorem Car.info:(prog.info? 265).map (fun i=>(i.zero,i.size,i.bytes))=some (some (.agg #[O J 0,O J 0,O J 0,O J 0,.bool false,.slice none 0 0]),6,64):=by kernel_rfl
theorem lp(x:Ca):∀ u∈QW x,u.oneCell'=true:=by simp[Value.oneCell']
def HS0:HS:=⟨none,none,0,0,fun _=>none,fun _=>none,fun _=>[]⟩
theorem Hl.new{w:l6}{h:Nat}(hb:Bx w h [.map none,.map none,O J 0]):Hl w h HS0:=by
 obtain⟨⟨c0,c1,c2⟩,f0,f1,f2⟩:=hb.o3;exact{c0:=c0,c1:=c1,c2:=⟨0,c2⟩,f0:=f0,f1:=f1,f2:=f2,m1:=.inl ⟨rfl,fun _=>rfl⟩,m2:=.inl ⟨rfl,fun _=>rfl⟩,ne1:=by simp[HS0],ne2:=by simp[HS0],ne3:=(fun b e=>by cases e),row:=(fun k s e=>by cases e),non:=fun _ _=>rfl,sep:=(fun k k' s s' b e=>by cases e),off:=(fun k s b e=>by cases e)}
theorem HS0.x{h k:Nat}(hx:Xh HS0 h k):k=h:=by
 rcases hx with hx|hx|hx|⟨key,s,hx,-⟩
 ·exact hx
 ·cases hx
 ·cases hx
 ·cases hx
def Yw(s:Sc)(x:Ca):Prop:=CarW s x.c x.l/\x.l=[]/\x.c.mode=0/\x.A=none/\x.n=0/\x.k=0/\CarX s x.c
def dF(s:Sc)(sA:iX)(sn sk:Nat)(w:l6)(e:Ending)(w':l6):Prop:=
 ∃(wb h:Nat)(cv:Value)(L:List Ca),e=.returned (.pointer (some ⟨wb,0,none⟩))/\Wd w.heap.size s sA sn sk wb h w' HS0 cv (.slice none 0 0) L [] 0/\(L.length:Int)=s.cars/\(∀x∈L,Yw s x)/\Below w.heap.size w w'
theorem bz(s:Sc)(hs:s.ok)(sA:iX)(sn sk:Nat)(w:l6):
  Calls prog 138 #[s.v sA sn sk] w (dF s sA sn sk w):=by
 obtain⟨f0,f1⟩:=hs.fl;obtain⟨g0,g1⟩:=hs.gap;obtain⟨c0,c1⟩:=hs.cars;obtain⟨n,hn⟩:∃ n:Nat,(n:Int)=s.cars:=⟨s.cars.toNat,by omega⟩;have HS:=ze hs;have HN:=ze hn;have hn0:(n:Int)<=16:=by omega
 clear hs
 go_in
 go_upto_region 2 with(fail);have h8:=ze (Bs.three w (s.ls sA sn sk) [.map none,.map none,O J 0] (d6 s sA sn sk (w.heap.size+1) (.slice none 0 0) (.slice none 0 0) 0) 25 306 213);refine kx (W:=((w.alloc (.cells #[O J s.fl,O J s.gap,O J s.cars,O J s.cap,O J s.opn,O J s.dw,O J s.cl,O J s.tr,.slice sA sn sk,O J s.disp,O J s.hor,O J s.bins,O J s.width] 25)).alloc (.cells #[.map none,.map none,O J 0] 306)).alloc (.cells #[O J s.fl,O J s.gap,O J s.cars,O J s.cap,O J s.opn,O J s.dw,O J s.cl,O J s.tr,.slice sA sn sk,O J s.disp,O J s.hor,O J s.bins,O J s.width,.pointer (some ⟨w.heap.size+1,0,none⟩),.slice none 0 0,.slice none 0 0,O J 0] 213)) (fun V=>Bx V w.heap.size (s.ls sA sn sk)/\Bx V (w.heap.size+1) [.map none,.map none,O J 0]/\Bx V (w.heap.size+1+1) (d6 s sA sn sk (w.heap.size+1) (.slice none 0 0) (.slice none 0 0) 0)/\Below w.heap.size w V/\V.heap.size=w.heap.size+3) ⟨h8.o.cell (by simp),h8.o.cell (by simp),h8.o.cell (by simp),h8.o.b,by simp⟩ ?_;clear h8;rintro V ⟨hB,hP,hQ,hE,H6⟩;have HS0:=ze hB;have hY:=ze hP;have hZ:=ze hQ;have hC:=ze hE;obtain⟨⟨q0,q1,q2,-,-,-,-,-,-,-,-,-,-⟩,-⟩:=hB.o13;rw[<-hn]at q2;clear hB hP hQ hE hn;go_wp2_with fail
 go_loopw [12] (fun k wr=>∃(j:Nat)(A:iX)(c:Nat)(L:List Ca),k=O J j/\j<=n/\L.length=j/\Bx wr (w.heap.size+1+1) (d6 s sA sn sk (w.heap.size+1) (.slice A j c) (.slice none 0 0) 0)/\HB.Own wr V.heap.size 265 6 QW (.slice A j c) L/\(∀x∈L,Yw s x)/\But (fun k=>k=(w.heap.size+1+1)) V wr) (fun k _=>n-(intOf k).toNat)
 case atStart=>exact⟨0,none,0,[],rfl,vf _,rfl,hZ.o,Own.nil _ _ _ _ _,(fun x hx=>by cases hx),But.refl _ V⟩
 case round=>
  obtain⟨j,A,c,L,rfl,hj,ho,hx,hO,hF,h2⟩:=hrel;have ha:=ze hx;have hi:=ze hO;have hg:=ze ho;have HF:=ze hF;have hr:=ze h2;have H7:=h2.size;have hf:w.heap.size+1+1<wr.heap.size:=by omega
  have he:w.heap.size<wr.heap.size:=by omega
  have h6:=ze (HS0.o.but h2 (by omega) (by omega));have j0:(0:Int)<=(j:Int):=by omega
  clear q0 q1 q2 hx hO ho hF h2;by_cases H5:j<n
  ·have j1:(j:Int)<(n:Int):=by omega
   obtain⟨⟨q0,q1,q2,-,-,-,-,-,-,-,-,-,-⟩,-⟩:=h6.o.o13;have d14:=(ha.o 14 _ rfl).1;have g14:=(ha.o 14 _ rfl).2;have hd:0<=(j:Int)*s.fl:=JE j0 (by omega);have hw:(j:Int)*s.fl<=16*128:=yO (by omega) f1 (by omega) (by omega);obtain⟨hm,hI⟩:∃ hm,hm=min (((j:Int)*s.fl+s.cars-1)/s.cars) (s.fl-1):=⟨_,rfl⟩;have H1:0<=((j:Int)*s.fl+s.cars-1)/s.cars:=Wi (by omega) (by omega);have hL:0<=hm:=by omega
   have hM:hm<=127:=by omega
   obtain⟨pp,h7⟩:∃ pp,pp=hm*s.gap:=⟨_,rfl⟩;have pp0:0<=pp:=by rw[h7];exact JE hL (by omega)
   have pp1:pp<=127*s.gap:=by rw[h7];exact xB hM (by omega)
   have pp2:pp<=1000000:=by omega
   have hU:=ze (fun W=>Ka s.fl s.cars (j:Int) ((j:Int)*s.fl) hm W (by omega) rfl hd (by omega) (by omega) (by omega) hI (by omega) (by omega));have hS:=ze (fun W=>kP hm s.gap pp W h7 (by omega) (by omega));have hX:CarX s ⟨pp,0,0,0,false⟩:=⟨pp0,by show pp<=_;rw[h7];exact xB (by omega) (by omega),fun _=>by show pp%s.gap=0;rw[h7];exact Int.mul_emod_left ..,fun h=>(by cases h),.inl rfl,⟨Vu 0,show(0:Int)<=4 by decide⟩,fun h=>(by cases h),fun h=>(by cases h),fun h=>(by cases h)⟩;have hT:=ze (show Yw s (⟨⟨pp,0,0,0,false⟩,none,0,0,[]⟩:Ca)from⟨⟨pp0,pp1,show(-1:Int)<=0 by decide,show(0:Int)<=1 by decide,show(0:Int)<=0 by decide,show(0:Int)<=4 by decide,fun h=>by simp at h,⟨show(0:Int)<=0 by decide,show(0:Int)<=64 by decide⟩,by have:=HS.o.cap;simp;omega⟩,rfl,rfl,rfl,rfl,rfl,hX⟩);clear hX hd hw hI H1 h7 hL hM;go_upto_region 5 with(fail);refine wp_region_held_drew (S:=(fun W=>W.cell? ⟨w.heap.size,0,none⟩=some (O J s.fl)/\W.cell? ⟨w.heap.size,1,none⟩=some (O J s.gap)/\W.cell? ⟨w.heap.size,2,none⟩=some (O J s.cars))) (by kernel_rfl) ?_ (fun hHeld=>?_)
   ·exact⟨q0,q1,q2⟩
   refine qK [0,1,2,3,5,6,7,8,9,11,12] (by simp[zl];rfl) (by kernel_rfl) (by assumption) ?_
   iterate 11 (refine qz (v:=?_) (fun _ _ _ h=>h) (by rfl) ?_ ?_;rotate_left;(next=>((intro w hc;(try dsimp only at hc);go_simp);(try with_reducible rfl)));try go_frame)
   refine qL ?_
   iterate 6
    all_goals first
     |(refine jj [4,10] (by decide+kernel) ?_;refine j6 (by simp[zl];rfl) rfl (fun K hK=>?_) (j6 (by simp[zl];rfl) rfl (fun K hK=>?_) ym))
     |(refine jj [10] (by decide+kernel) ?_;refine j6 (by simp[zl];rfl) rfl (fun K hK=>?_) ym)
     |(refine jj [4,13] (by decide+kernel) ?_;refine j6 (by simp[zl];rfl) rfl (fun K hK=>?_) (j6 (by simp[zl];rfl) rfl (fun K hK=>?_) ym))
     |(refine jj [13] (by decide+kernel) ?_;refine j6 (by simp[zl];rfl) rfl (fun K hK=>?_) ym)
     |(refine jj [4,15] (by decide+kernel) ?_;refine j6 (by simp[zl];rfl) rfl (fun K hK=>?_) (j6 (by simp[zl];rfl) rfl (fun K hK=>?_) ym))
     |(refine jj [15] (by decide+kernel) ?_;refine j6 (by simp[zl];rfl) rfl (fun K hK=>?_) ym)
     |(refine jj [4] (by decide+kernel) ?_;refine j6 (by simp[zl];rfl) rfl (fun K hK=>?_) ym)
     |(refine jj [16] (by decide+kernel) ?_;refine j6 (by simp[zl];rfl) rfl (fun K hK=>?_) ym)
     |(refine jj [19] (by decide+kernel) ?_;refine j6 (by simp[zl];rfl) rfl (fun K hK=>?_) ym)
    all_goals first
     |(refine jn (P:=prog) rfl _ _ 211 rfl underlying211 Car.info rfl (by omega) (by omega) rfl (hW.o.alloc _) (⟨⟨pp,0,0,0,false⟩,none,0,0,[]⟩:Ca) ⟨_,0,none⟩ 1 rfl rfl (zr _ _ (QW (⟨⟨pp,0,0,0,false⟩,none,0,0,[]⟩:Ca)) _ rfl) (lp _) (by have:=hg.o;omega) (by simp;omega) ?_;intro v7 w7 k1 k2 k3;obtain⟨A7,n7,k7,rfl,hN,H3⟩:=HB.Own.slice k1;have H2:n7=j+1:=(by have:=hg.o;simp at hN;omega);clear hN;subst H2;have hA:=h9.o.alloc H4 (.cells #[O J pp,O J 0,O J 0,O J 0,.bool false,.slice none 0 0] 265);have hq:=fun k(hk:(Value.slice A j c).ownBlock=some k)=>(hi.o.row.lt k hk);have ht:=ze (((hr.o.then_ hA).grown k2 (fun p hp hl=>absurd (hq p hp).1 (by omega))));have hR:=((ha.o.below hA hf).but (But.of_grown (X:=fun p=>(Value.slice A j c).ownBlock=some p) k2 (fun p hp=>hp)) (by have:=hA.size;omega) (fun hx=>by have:=(hq _ hx).1;omega));have hv:=ze hR;have h0:=ze ((h6.o.below hA he).but (But.of_grown (X:=fun p=>(Value.slice A j c).ownBlock=some p) k2 (fun p hp=>hp)) (by have:=hA.size;omega) (fun hx=>by have:=(hq _ hx).1;omega));have hD:=ze k1;clear k1 k2 k3 hA hq hR;have d7:=(hv.o 14 _ rfl).1;have g7:=(hv.o 14 _ rfl).2;refine hK.out _ _ ?_ (fun hHeld=>?_);(next=>exact⟨(h0.o 0 _ rfl).1,(h0.o 1 _ rfl).1,(h0.o 2 _ rfl).1⟩);clear hK K;try go_frame)
     |(go_simp;first
      |(go_at_call 177;(with_reducible refine(hU.o _).mono ?_);rintro r wX ⟨rfl,hG⟩;have h9:=ze (show Below wr.heap.size wr wX from(Below.refl wr.heap.size wr).drew.trans hG);have H4:=h9.o.size;have dX:=ze (ha.o.below h9.o hf);have hu:=ze (h6.o.below h9.o he);have hW:=ze (hi.o.below h9.o);clear hG;obtain⟨⟨q0b,q1b,q2b,-,-,-,-,-,-,-,-,-,-⟩,-⟩:=hu.o.o13;have d14b:=(dX.o 14 _ rfl).1;have g14b:=(dX.o 14 _ rfl).2;have d14a:(wX.alloc (.cells #[O J pp,O J 0,O J 0,O J 0,.bool false,.slice none 0 0] 265)).cell? ⟨w.heap.size+1+1,14,none⟩=some (.slice A j c):=zf ((Below.refl wX.heap.size wX).alloc fi _) d14b;have n14:=World.new_ne wX _ d14b;refine hK.out _ _ ?_ (fun hHeld=>?_);(next=>exact⟨q0b,q1b,q2b⟩);clear hK K;try go_frame)
      |(go_at_call 176;(with_reducible refine(hS.o _).mono ?_);rintro r wY ⟨rfl,e8⟩;have e9:=e8.symm;clear e8;subst e9;refine hK.out _ _ ?_ (fun hHeld=>?_);(next=>exact⟨q0b,q1b,q2b⟩);clear hK K;try go_frame)
      |(refine hK.out _ _ ?_ (fun hHeld=>?_);(next=>exact hHeld);clear hK K;try go_frame)
      |(refine hK.out _ _ ?_ (fun hHeld=>?_);(next=>exact⟨zf ((Below.refl wX.heap.size wX).alloc fi _) q0b,zf ((Below.refl wX.heap.size wX).alloc fi _) q1b,zf ((Below.refl wX.heap.size wX).alloc fi _) q2b⟩);clear hK K;try go_frame)
      |(refine hK.out _ _ ?_ (fun hHeld=>?_);(next=>exact⟨((h0.o.setOther (a:=⟨w.heap.size+1+1,14,none⟩) (by simp;omega) _) 0 _ rfl).1,((h0.o.setOther (a:=⟨w.heap.size+1+1,14,none⟩) (by simp;omega) _) 1 _ rfl).1,((h0.o.setOther (a:=⟨w.heap.size+1+1,14,none⟩) (by simp;omega) _) 2 _ rfl).1⟩);clear hK K;try go_frame))
    all_goals try(refine qK [14] (by simp[zl];rfl) (by decide+kernel) (by assumption) ?_;(iterate 1 (refine qz (v:=?_) (fun _ _ _ h=>h) (by rfl) ?_ ?_;rotate_left;(next=>((intro w hc;(try dsimp only at hc);go_simp);(try with_reducible rfl)));try go_frame));refine qL ?_)
    all_goals try(refine qK [17,18] (by simp[zl];rfl) (by decide+kernel) (by assumption) ?_;(iterate 2 (refine qz (v:=?_) (fun _ _ _ h=>h) (by rfl) ?_ ?_;rotate_left;(next=>((intro w hc;(try dsimp only at hc);go_simp);(try with_reducible rfl)));try go_frame));refine qL ?_)
   all_goals
     refine wpAnyH_done (by kernel_rfl) ?_ _;go_wp2_with fail;go_roundw
     case rel=>exact⟨j+1,A7,k7,L++[(⟨⟨pp,0,0,0,false⟩,none,0,0,[]⟩:Ca)],by go_num,by omega,by simp[hg.o],hv.o.set 14 (.slice A7 (j+1) k7),hD.o.but ((But.refl (fun k=>k=w.heap.size+1+1) w7).at1 rfl 14 _) (fun k hk e=>by have:=(hD.o.row.lt k hk).1;omega),(fun y hy=>by rcases yp.1 hy with h|h;exact HF.o y h;(obtain rfl:=vN.1 h;exact hT.o)),ht.o.at1 rfl _ _⟩
     case measure=>simp[intOf];omega
  ·have j1:¬ ((j:Int)<(n:Int)):=by omega
   have hJ:j=n:=by omega
   have hV:=ze hJ;clear hJ;go_wp2_with fail;go_ret;have ho:=hg.o;have H0:Below w.heap.size w wr:=hC.o.trans (hr.o.below (fun k e=>by omega) (by have:=hC.o.size;omega));have hh:=Hl.new (hY.o.but hr.o (by omega) (by omega));refine⟨w.heap.size+1+1,w.heap.size+1,.slice A j c,L,rfl,⟨ha.o,by omega,hh,fun k hk=>by have:=Go.Proofs.YtdeogmbfgkepeaaGreatDoor.HS0.x hk;omega,hi.o.small (by omega),fun z hz=>?_,Own.nil _ _ _ _ _,fun hx=>by have:=Go.Proofs.YtdeogmbfgkepeaaGreatDoor.HS0.x hx;omega,fun p hp=>?_,fun p hp=>(by cases hp),fun k hk=>?_⟩,by rw[ho,hV.o];exact HN.o,HF.o,H0⟩
   ·obtain⟨-,h1,-,h3,h4,h5,-⟩:=HF.o z hz;rw[h1,h3,h4,h5];exact⟨⟨Rd.nil,rfl⟩,fi⟩
   ·have h1:=(hi.o.row.lt p hp).1;exact⟨by omega,fun hx=>by have:=Go.Proofs.YtdeogmbfgkepeaaGreatDoor.HS0.x hx;omega,fun h=>(by cases h)⟩
   ·obtain⟨z,hz,off,e⟩:=hk;have h3:=(HF.o z hz).2.2.2.1;rw[h3]at e;cases e
end
end Go.Proofs.YtdeogmbfgkepeaaGreatDoor
