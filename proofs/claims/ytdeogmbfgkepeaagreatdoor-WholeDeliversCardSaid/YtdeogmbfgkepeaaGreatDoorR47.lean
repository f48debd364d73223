/- Contracts for WholeDelivers. -/
import Derived.Test.YtdeogmbfgkepeaaGreatDoorR06
import Derived.Test.YtdeogmbfgkepeaaGreatDoorR26
import Derived.Test.YtdeogmbfgkepeaaGreatDoorR44
set_option linter.unusedVariables false
set_option linter.unusedSimpArgs false
set_option maxRecDepth 100000
set_option maxHeartbeats 64000000
namespace Go.Proofs.YtdeogmbfgkepeaaGreatDoor
open Go.Proofs.Tryz
open Go.Value renaming int->O
open Go.IntKind renaming i64->J
section
open Go.RowKit HB Go.Maps CalP CumP TabP WhenP ArrP
theorem Vc{Q:l6->Prop}{W:l6}(S:l6->Prop)(hS:S W)(h:∀ W':l6,S W'->Q W'):Q W:=h W hS
section
variable(s:Sc)(hs:s.ok)(hf:s.fl<=20)(sA:iX)(sn sk:Nat)(wA:iX)(wn wc:Nat)(ws:l8)(g:Nat)(v:Value)(Z:List Sr)(t a n:Nat)(w:l6)
theorem Vd(H:Gn s sA sn sk wA wn wc ws g v Z t a n w)(hw:wn<=1000000)(ha:wn<=a)(z:Sr):
  Calls prog 52 #[.pointer (some ⟨g,0,none⟩),.agg #[.slice z.A z.n z.c,.pointer (some ⟨z.x,0,none⟩)]] w (fk (.tuple #[.agg #[O J 0,O J 0,O J 0,O J 0],O J 50]) w):=by
 have HN:=ze (fun W=>vd wA wn wc a (by omega) W (.inr (by omega)));have h2:=H.lt;obtain⟨⟨c8,c10,c13,c14,c15,c16,c17⟩,f13,f14,f15,f16,f17⟩:=H.cells;clear H
 go_in
 go_wp2_with(go_at_call 73;(with_reducible refine(HN.o _).mono ?_);rintro r w1 ⟨rfl,h0⟩;have h1:=ze (show Below w.heap.size w w1 from(((Below.refl w.heap.size w).alloc fi _).alloc (by simp) _).trans (h0.mono (by simp;omega)));have h3:w.heap.size+1<w1.heap.size:=(by have:=h0.size;simp at this;omega);have e0:w1.cell? ⟨w.heap.size+1,0,none⟩=some (O J 0):=zf h0 (by simp);have e1:w1.cell? ⟨w.heap.size+1,1,none⟩=some (O J 0):=zf h0 (by simp);have e2:w1.cell? ⟨w.heap.size+1,2,none⟩=some (O J 0):=zf h0 (by simp);have e3:w1.cell? ⟨w.heap.size+1,3,none⟩=some (O J 0):=zf h0 (by simp);have g0:w1.frozen? ⟨w.heap.size+1,0,none⟩=false:=zG h0 (by simp) (by simp);have g1:w1.frozen? ⟨w.heap.size+1,1,none⟩=false:=zG h0 (by simp) (by simp);have g2:w1.frozen? ⟨w.heap.size+1,2,none⟩=false:=zG h0 (by simp) (by simp);have g3:w1.frozen? ⟨w.heap.size+1,3,none⟩=false:=zG h0 (by simp) (by simp);clear h0);refine bodyPost_ret (v:=.tuple #[.agg #[O J 0,O J 0,O J 0,O J 0],O J 50]) (by rw[results_cell_tmp rfl];go_simp) rfl ?_;exact⟨rfl,by go_grown;exact h1.o⟩
theorem bO(hs:s.ok)(hf:s.fl<=20)(H:Gn s sA sn sk wA wn wc ws g v Z t a n w)(hw:wn<=1000000)(ha:a<wn)(hwx:∀ x∈ws,0<=x/\x<=4294967295)(hn:n<=1000000)(ht:t<=1000000)
  (i:Nat)(z:Sr)(sg:Sg)(hz:Z[i]?=some z)(hsg:s.segs[i]?=some sg):
  Calls prog 52 #[.pointer (some ⟨g,0,none⟩),.agg #[.slice z.A z.n z.c,.pointer (some ⟨z.x,0,none⟩)]] w fun e w'=>(∃p q:Int,e=.returned (.tuple #[.agg #[O J n,O J t,O J p,O J q],O J 0])/\0<=p/\p<s.fl/\0<=q/\q<s.fl/\p≠q)/\Gn s sA sn sk wA wn wc ws g v Z t (a+1) (n+1) w'/\But (fun k=>k=g) w w':=by
 obtain⟨b,off,x,rfl,hE,hl,hc⟩:=H.wd.1.int_at H.wd.2 ha;have hx:=hwx x (jx hl);have hN:b≠g:=by omega
 clear hl hwx;have h5:=hs.segs sg (jx hsg);have hO:=hs.fl;have hF:=JG w _ hc;have HN:=ze (fun W(hb:Below w.heap.size w W)=>Zh b off wn wc a x (by omega) W ha ((hb.cell (p:=⟨b,off+a,none⟩) hF).trans hc));have HG:=ze H;have HD:=ze (fun W(hb:Below w.heap.size w W)=>by
  have ho:=(H.below hb).ok i z sg hz hsg;have h2:=ho.gd;rw[show s.fl=((s.fl.toNat:Nat):Int) by omega]at h2;exact UR z.x z.gn z.m sg.k s.fl.toNat x W h2 ho.gn h5.k (by omega) hx.1 hx.2)
 have hR:=H.lt;obtain⟨⟨c8,c10,c13,c14,c15,c16,c17⟩,f13,f14,f15,f16,f17⟩:=H.cells;clear H h5 hc
 go_in
 go_upto_region 4 with(go_at_call 73;(with_reducible refine(HN.o _ (by go_grown)).mono ?_);rintro r w1 ⟨rfl,h3⟩;have h6:=ze (show Below w.heap.size w w1 from(((Below.refl w.heap.size w).alloc fi _).alloc (by simp) _).trans (h3.mono (by simp;omega)));have hT:w.heap.size+1<w1.heap.size:=(by have:=h3.size;simp at this;omega);have e0:w1.cell? ⟨w.heap.size+1,0,none⟩=some (O J 0):=zf h3 (by simp);have e1:w1.cell? ⟨w.heap.size+1,1,none⟩=some (O J 0):=zf h3 (by simp);have e2:w1.cell? ⟨w.heap.size+1,2,none⟩=some (O J 0):=zf h3 (by simp);have e3:w1.cell? ⟨w.heap.size+1,3,none⟩=some (O J 0):=zf h3 (by simp);have g0:w1.frozen? ⟨w.heap.size+1,0,none⟩=false:=zG h3 (by simp) (by simp);have g1:w1.frozen? ⟨w.heap.size+1,1,none⟩=false:=zG h3 (by simp) (by simp);have g2:w1.frozen? ⟨w.heap.size+1,2,none⟩=false:=zG h3 (by simp) (by simp);have g3:w1.frozen? ⟨w.heap.size+1,3,none⟩=false:=zG h3 (by simp) (by simp);have hS:w.heap.size<w1.heap.size:=(by omega);have hy:g<w1.heap.size:=(by omega);have q0:w1.cell? ⟨w.heap.size,1,none⟩=some (.pointer (some ⟨z.x,0,none⟩)):=zf h3 (by simp);clear h3);go_upto_region 7 with(go_at_call 75;(with_reducible refine(HD.o _ (by go_grown;exact h6.o)).mono ?_);rintro r w2 ⟨p,q,rfl,hm,hp,hr,hv,hq,hj⟩;have HP:=ze (iG hm (iG hp (iG hr (iG hv hq))));have h4:=ze hj;clear hm hp hr hv hq hj);have hL:=h4.o.size;simp only[World.size_alloc]at hL;have he:=ze (show Below w.heap.size w (w2.alloc (.cells #[O J p,O J q] 148))from((h6.o.alloc h6.o.size _).trans (h4.o.mono (by simp;omega))).alloc (by omega) _);have HZ:=ze (show Bx (w2.alloc (.cells #[O J p,O J q] 148)) (w.heap.size+1) [O J 0,O J 0,O J 0,O J 0]/\Bx (w2.alloc (.cells #[O J p,O J q] 148)) w1.heap.size [.slice (some ⟨b,off,none⟩) wn wc,O J ((a:Int)+1)]/\Bx (w2.alloc (.cells #[O J p,O J q] 148)) w2.heap.size [O J p,O J q]from by
  refine⟨?_,?_,Bx.new _ [O J p,O J q] _⟩
  ·have h0:Bx w1 (w.heap.size+1) [O J 0,O J 0,O J 0,O J 0]:=by
    intro j u hu
    match j with
    |0=>cases hu;exact⟨e0,g0⟩
    |1=>cases hu;exact⟨e1,g1⟩
    |2=>cases hu;exact⟨e2,g2⟩
    |3=>cases hu;exact⟨e3,g3⟩
    |(k+4)=>simp at hu
   exact((h0.alloc (by simp) _).below h4.o (by simp;omega)).alloc (by simp) _
  ·exact((Bx.new w1 [.slice (some ⟨b,off,none⟩) wn wc,O J ((a:Int)+1)] 32).below h4.o (by simp)).alloc (by simp) _)
 refine zq (w:=w) (fun V=>Bx V (w.heap.size+1) [O J 0,O J 0,O J 0,O J 0]/\Bx V w1.heap.size [.slice (some ⟨b,off,none⟩) wn wc,O J ((a:Int)+1)]/\Bx V w2.heap.size [O J p,O J q]/\w2.heap.size<V.heap.size) ⟨HZ.o.1,HZ.o.2.1,HZ.o.2.2,by simp⟩ he.o ?_;clear HZ he h6 h4 HN HD e0 e1 e2 e3 g0 g1 g2 g3 q0 c8 c10 c13 c14 c15 c16 c17 f13 f14 f15 f16 f17;generalize w1.heap.size=k1 at*;generalize w2.heap.size=k2 at*;rintro V ⟨h0,h1,h2,hy⟩ h9;have hC:=ze h9;have hi:=ze (HG.o.below h9);obtain⟨⟨c8,c10,c13,c14,c15,c16,c17⟩,f13,f14,f15,f16,f17⟩:=hi.o.cells;obtain⟨⟨d0,d1⟩,-⟩:=h1.o2;have hP:g<V.heap.size:=by omega
 have hG:k1<V.heap.size:=by omega
 clear c8 c10 c15 c16 c17 f15 f16 f17;have HT:=ze (by have:=hi.o.at14 (a+1);rwa [show((a+1:Nat):Int)=(a:Int)+1 by omega]at this);have hg:=ze (iG h0 h2);clear h0 h1 h2;go_upto_region 8 with(fail);refine Vc (fun W=>Gn s sA sn sk (some ⟨b,off,none⟩) wn wc ws g v Z t (a+1) n W/\But (fun k=>k=g) V W/\W.heap.size=V.heap.size) ⟨HT.o.1,HT.o.2,by simp⟩ ?_;rintro W ⟨hd,h7,hA⟩;have hD:=ze hd;have hB:=ze h7;obtain⟨⟨c8,c10,c13,c14,c15,c16,c17⟩,f13,f14,f15,f16,f17⟩:=hd.cells;obtain⟨⟨b0,b1⟩,-⟩:=(hg.o.2.but h7 hy (by show¬k2=g;omega)).o2;obtain⟨⟨r0,r1,r2,r3⟩,s0,s1,s2,s3⟩:=(hg.o.1.but h7 (by omega) (by show¬w.heap.size+1=g;omega)).o4;have hQ:g<W.heap.size:=by omega
 have hI:k2<W.heap.size:=by omega
 have hJ:w.heap.size+1<W.heap.size:=by omega
 have hM:=ze hA;clear hA hd h7 h9 HT c8 c10 c13 c14 c15 d0 d1 f13 f14 f15 f16;go_wp2_with fail;go_region;go_wp2_with fail;refine bodyPost_ret (v:=.tuple #[.agg #[O J n,O J t,O J p,O J q],O J 0]) (by rw[results_cell_tmp rfl];go_simp) rfl ?_;have hk:=(hD.o.at17 (n+1)).1.bx;rw[show((n+1:Nat):Int)=(n:Int)+1 by omega]at hk;have h8:w.heap.size+1≠g:=by omega
 have h3:But (fun k=>k=g) w ((((((W.setCell ⟨g,17,none⟩ (O J ((n:Int)+1))).setCell ⟨w.heap.size+1,0,none⟩ (O J n)).setCell ⟨w.heap.size+1,1,none⟩ (O J t)).setCell ⟨w.heap.size+1,2,none⟩ (O J p)).setCell ⟨w.heap.size+1,3,none⟩ (O J q)).alloc (.cells #[O J n,O J t,O J p,O J q] 117)).drew:=
  ((((((((But.of_below (X:=fun k=>k=g) hC.o).trans hB.o (fun _ _ h=>h)).set (a:=⟨g,17,none⟩) (.inl rfl) _).set (a:=⟨w.heap.size+1,0,none⟩) (.inr (Ut _)) _).set (a:=⟨w.heap.size+1,1,none⟩) (.inr (Ut _)) _).set (a:=⟨w.heap.size+1,2,none⟩) (.inr (Ut _)) _).set (a:=⟨w.heap.size+1,3,none⟩) (.inr (Ut _)) _).then_ (fh.alloc fi _)).then_ fh.drew
 refine⟨⟨p,q,rfl,by have:=HP.o;omega,by have:=HP.o;omega,by have:=HP.o;omega,by have:=HP.o;omega,HP.o.2.2.2.2⟩,HG.o.turn h3 ?_,h3⟩;exact(((((hk.setOther h8 _).setOther h8 _).setOther h8 _).setOther h8 _).alloc (by simp) _).drew
theorem YB(H:Gn s sA sn sk wA wn wc ws g v Z t a n w):HB.Rd w w.heap.size 3 sA sn ((s.segs.map qF).flatMap When.seg)/\(s.segs.map qF).length=sn:=by
 have h:=H.sg;refine⟨?_,by rw[KS];exact h.2⟩;rw[List.flatMap_map];exact h.1.mono (Vq H.lt)
theorem Ve(hs:s.ok)(H:Gn s sA sn sk wA wn wc ws g v Z t a n w):
  Calls prog 26 #[.pointer (some ⟨g,0,none⟩)] w (fk (.bool (decide (s.hor<=(t:Int)\/tot (s.segs.map qF)<=(t:Int)))) w):=by
 have h7:=H.lt;have h6:=hs.len;have h0:=YB s sA sn sk wA wn wc ws g v Z t a n w H;have h3:sn<=30:=by rw[<-h0.2,KS];omega
 have h5:=ze (fun W(hb:Below w.heap.size w W)=>XN sA sn sk w.heap.size (s.segs.map qF) W (h0.1.below hb) h0.2 h3 hb.size);obtain⟨⟨c8,c10,c13,c14,c15,c16,c17⟩,f13,f14,f15,f16,f17⟩:=H.cells;clear H h0 c13 c14 c15 c17 f13 f14 f15 f16 f17;generalize tot (s.segs.map qF)=T at*;by_cases h1:s.hor<=(t:Int)
 ·have e1:decide (s.hor<=(t:Int))=true:=by simpa using h1
  go_in
  go_wp2_with fail;go_quiet(fail);go_wp2_with fail;go_ret;exact⟨by rw[decide_eq_true (show s.hor<=(t:Int)\/T<=(t:Int)from .inl h1)];rfl,zg fh _⟩
 ·have e1:decide (s.hor<=(t:Int))=false:=by simpa using h1
  have MK:=ze (fun V(hb:Below w.heap.size w V)=>(show V.cell? ⟨g,8,none⟩=some (.slice sA sn sk)/\V.cell? ⟨g,10,none⟩=some (O J s.hor)/\V.cell? ⟨g,16,none⟩=some (O J t)/\Below w.heap.size w V from⟨zf hb c8,zf hb c10,zf hb c16,hb⟩))
  go_in
  go_wp2_with fail
  go_region_held3 (fun V=>V.cell? ⟨g,8,none⟩=some (.slice sA sn sk)/\V.cell? ⟨g,10,none⟩=some (O J s.hor)/\V.cell? ⟨g,16,none⟩=some (O J t)/\Below w.heap.size w V)
   (((refine MK.o _ ?_);(first|(with_reducible exact h2.o)|(go_grown;done)|(go_grown;with_reducible exact h2.o))))
   (first|(go_at_call 6;go_split_ands;refine(h5.o _ ‹Below w.heap.size w _›).mono ?_;rintro e w4 ⟨rfl,h4⟩;have h2:=ze ((‹Below w.heap.size w _›).trans (h4.mono (‹Below w.heap.size w _›).size));clear h4))
  all_goals
   go_wp2_with fail;go_ret;exact⟨by rw[show decide (s.hor<=(t:Int)\/T<=(t:Int))=decide (T<=(t:Int))from decide_eq_decide.2 (by omega)];rfl,h2.o⟩
end
theorem Pa.info:(prog.info? 117).map (fun i=>(i.zero,i.size,i.bytes))=some (some (.agg #[O J 0,O J 0,O J 0,O J 0]),4,32):=by kernel_rfl
theorem YC(p:Pa):∀ u∈Wl p,u.oneCell'=true:=by
 intro u hu;simp only[qx,Zl,or_false]at hu;rcases hu with rfl|rfl|rfl|rfl<;>rfl
structure Crowd(s:Sc)(t n:Nat)(P:List Pa):Prop where
 id:∀(j:Nat)(p:Pa),P[j]?=some p->p.id=((n+j:Nat):Int)
 ok:∀ p∈P,p.tick=(t:Int)/\0<=p.frm/\p.frm<s.fl/\0<=p.to_/\p.to_<s.fl/\p.frm≠p.to_
theorem Crowd.nil(s:Sc)(t n:Nat):Crowd s t n []:=⟨fun j p h=>by simp at h,fun p h=>by simp at h⟩
theorem Crowd.snoc{s:Sc}{t n:Nat}{P:List Pa}(h:Crowd s t n P)(p:Pa)(h1:p.id=((n+P.length:Nat):Int))(h2:p.tick=(t:Int)/\0<=p.frm/\p.frm<s.fl/\0<=p.to_/\p.to_<s.fl/\p.frm≠p.to_):Crowd s t n (P++[p]):=by
 refine⟨fun j q hq=>?_,fun q hq=>?_⟩
 ·rw[List.getElem?_append]at hq;split at hq
  ·exact h.id j q hq
  ·rename_i hj;have:j-P.length=0:=by
    rcases ZW (j-P.length)with h0|h0
    ·exact h0
    ·rw[Y0 (by simp;omega)]at hq;cases hq
   rw[this]at hq;cases hq;rw[h1];congr 2;omega
 ·rcases yp.1 hq with hq|hq
  ·exact h.ok q hq
  ·rw[vN.1 hq];exact h2
theorem dM{l:List Seg}{t j:Int}{ok:Bool}(h:At l l.length t j ok)(h0:0<=t)(h1:t<tot l):ok=true/\∃ i:Nat,i<l.length/\j=i/\At l l.length t i true:=by
 rcases h with⟨rfl,i,hi,rfl,h2,h3⟩|⟨rfl,rfl,h2⟩
 ·exact⟨rfl,i,hi,rfl,.inl ⟨rfl,i,hi,rfl,h2,h3⟩⟩
 ·rw[qY l _ fi]at h2;omega
theorem dN{w:l6}{q:Nat}{u v:Value}(h0:w.cell? ⟨q,0,none⟩=some u/\w.frozen? ⟨q,0,none⟩=false)(h1:w.cell? ⟨q,1,none⟩=some v/\w.frozen? ⟨q,1,none⟩=false):Bx w q [u,v]:=by
 intro j x hx
 match j with
 |0=>cases hx;exact h0
 |1=>cases hx;exact h1
 |(k+2)=>simp at hx
theorem ur{w:l6}{q:Nat}{u0 u1:Value}(h0:w.cell? ⟨q,0,none⟩=some u0)(h1:w.cell? ⟨q,1,none⟩=some u1)(f0:w.frozen? ⟨q,0,none⟩=false)(f1:w.frozen? ⟨q,1,none⟩=false)(u v:Value):Bx ((w.setCell ⟨q,0,none⟩ u).setCell ⟨q,1,none⟩ v) q [u,v]:=by
 have h:Bx w q [u0,u1]:=dN ⟨h0,f0⟩ ⟨h1,f1⟩;have:=(h.set 0 u).set 1 v;simpa using this
def dO(s:Sc)(sA:iX)(sn sk:Nat)(wA:iX)(wn wk:Nat)(ws:l8)(g:Nat)(v:Value)(Z:List Sr)(t a n:Nat)(w:l6)(e:Ending)(w':l6):Prop:=
 (e=.returned (.tuple #[.slice none 0 0,O J 50])/\(∀k,Run (s.segs.map qF) ws (k+1) t a n none)/\But (fun k=>k=g) w w')\/
 ∃(A:iX)(c a':Nat)(P:List Pa),e=.returned (.tuple #[.slice A P.length c,O J 0])/\HB.Rd w' w'.heap.size 4 A P.length (P.flatMap Wl)/\(∀b off,A=some ⟨b,off,none⟩->w.heap.size<=b)/\Crowd s t n P/\a+P.length<=a'/\P.length<=63/\Gn s sA sn sk wA wn wk ws g v Z (t+1) a' (n+P.length) w'/\But (fun k=>k=g) w w'/\(a'<=wn)/\∀ k r,Run (s.segs.map qF) ws k (t+1) a' (n+P.length) r->Run (s.segs.map qF) ws (k+1) t a n r
section
variable(s:Sc)(sA:iX)(sn sk:Nat)(wA:iX)(wn wk:Nat)(ws:l8)(g:Nat)(v:Value)(Z:List Sr)(t a n:Nat)(w:l6)
theorem He(hs:s.ok)(hf:s.fl<=20)(H:Gn s sA sn sk wA wn wk ws g v Z t a n w)(hw:wn<=100000)(hwx:∀ x∈ws,0<=x/\x<=4294967295)(hn:n<=a)(haw:a<=wn)(ht:t<=100000)(h1:(t:Int)<s.hor)(h2:(t:Int)<tot (s.segs.map qF)):
  Calls prog 27 #[.pointer (some ⟨g,0,none⟩)] w (dO s sA sn sk wA wn wk ws g v Z t a n w):=by
 have aA:=H.lt;have ar:=hs.len;have hJ:=YB s sA sn sk wA wn wk ws g v Z t a n w H;have hZ:sn<=30:=by rw[<-hJ.2,KS];omega
 have Ha:=ze (fun W(hb:Below w.heap.size w W)=>bN sA sn sk w.heap.size (s.segs.map qF) t W (hJ.1.below hb) hJ.2 hZ hb.size (by omega) (by omega));have H8:=ze (fun W(hb:Below w.heap.size w W)=>Ve s sA sn sk wA wn wk ws g v Z t a n W hs (H.below hb));have H9:=ze (show(0:Int)<=(t:Int)/\(t:Int)<tot (s.segs.map qF)from⟨by omega,h2⟩);have eov:decide (s.hor<=(t:Int)\/tot (s.segs.map qF)<=(t:Int))=false:=by simp;omega
 obtain⟨⟨c8,c10,c13,c14,c15,c16,c17⟩,f13,f14,f15,f16,f17⟩:=H.cells;have HG:=ze H;have MK:=ze (fun V(hb:Below w.heap.size w V)=>(show V.cell? ⟨g,8,none⟩=some (.slice sA sn sk)/\V.cell? ⟨g,16,none⟩=some (O J t)/\Below w.heap.size w V from⟨zf hb c8,zf hb c16,hb⟩));clear H hJ
 go_in
 go_wp2_with fail
 go_region_held3 (fun V=>V.cell? ⟨g,8,none⟩=some (.slice sA sn sk)/\V.cell? ⟨g,16,none⟩=some (O J t)/\Below w.heap.size w V)
  (((refine MK.o _ ?_);(first|(with_reducible exact hc.o)|(go_grown;done)|(go_grown;with_reducible exact hc.o))))
  (first|(go_at_call 50;go_split_ands;refine(Ha.o _ ‹Below w.heap.size w _›).mono ?_;rintro e w4 ⟨j,ok,rfl,Ho,Hq⟩;obtain⟨rfl,i,hi,rfl,hv⟩:=dM Ho H9.o.1 H9.o.2;have hy:=ze hv;have hc:=ze ((‹Below w.heap.size w _›).trans (Hq.mono (‹Below w.heap.size w _›).size));clear Hq Ho hv))
 rw[KS]at hi;clear MK Ha;have hr:=ze (HG.o.below hc.o);obtain⟨sb,so,sg,rfl,b4,hV,k0,k1,k2⟩:=hr.o.sg.at_ (show i<sn by rw[<-hr.o.sg.2];exact hi);have H2:=hs.segs sg (jx hV);have am:(i:Int)<(sn:Int):=by have:=hr.o.sg.2;omega
 have ak:(0:Int)<=(i:Int):=by omega
 have hD:=ze hV;have hd:=ze (H8.o _ hc.o);rw[eov]at hd;clear H8 hV k0 k1 k2 c8 c10 c13 c14 c15 c16 c17 f13 f14 f15 f16 f17;go_upto_region 4 with(go_at_call 26;(with_reducible refine hd.o.mono ?_);rintro r w5 ⟨rfl,Hs⟩;have hL:=ze Hs;clear Hs);have h0:=ze (hr.o.below hL.o);have h5:=ze (hc.o.trans (hL.o.mono hc.o.size));clear hc hL hr hd;obtain⟨⟨d8,d10,d13,d14,d15,d16,d17⟩,j13,j14,j15,j16,j17⟩:=h0.o.cells;have a3:g<w5.heap.size:=h0.o.lt;have k2:w5.cell? ⟨sb,so+i*3+2,none⟩=some (O J sg.r):=by
  obtain⟨sb',so',sg',hA,-,hW,-,-,k2⟩:=h0.o.sg.at_ (show i<sn by rw[<-h0.o.sg.2];exact hi);cases hA;have:=hD.o;rw[hW]at this;cases this;exact k2
 have h6:=ze (show(s.segs.map qF)[i]?=some (qF sg)from by rw[QL,hD.o];rfl);by_cases H1:sg.r=0
 ·have e1:decide (0<sg.r)=false:=by simp;omega
  have HT:=ze (by have:=h0.o.at16 (t+1);rwa [show((t+1:Nat):Int)=(t:Int)+1 by omega]at this);have HX:=ze H1;clear H1;go_wp2_with fail;go_ret2;exact .inr ⟨none,0,a,[],rfl,Rd.nil,fun _ _ h=>(by cases h),Crowd.nil _ _ _,fi,by simp,HT.o.1,(But.of_below h5.o).trans HT.o.2 (fun _ _ h=>h),haw,fun k r h=>Run.quiet k t a n i (qF sg) r hy.o h6.o HX.o h⟩
 ·have HH:0<sg.r:=by have:=H2.r;omega
  have e1:decide (0<sg.r)=true:=by simp;omega
  have hR:=ze HH;obtain⟨q,zk,z,sg',rfl,b3,hz,HL,hI,cA,cB⟩:=h0.o.src (show i<Z.length by rw[h0.o.len];exact hi);have H3:sg'=sg:=by have:=hD.o;rw[HL]at this;cases this;rfl
  subst H3;have b8:(i:Int)<(Z.length:Int):=by rw[h0.o.len];omega
  have HM:(tb sg'.r z.n z.n).length=z.n:=vr _ _ _;have HI:=UM (by omega) H2.r.2 hI.mn;have HP:z.n<=200:=by have:=hI.mn.2.1;omega
  have hE:=ze hI;have HZ:=ze hz;clear hI hz H1 HH d10 d16 HL;have MK:=ze (fun V(hb:Below w5.heap.size w5 V)=>(show V.cell? ⟨g,13,none⟩=some (.slice wA wn wk)/\V.cell? ⟨g,14,none⟩=some (O J a)/\V.cell? ⟨g,15,none⟩=some (.slice (some ⟨q,0,none⟩) Z.length zk)/\V.cell? ⟨q,i*2,none⟩=some (.slice z.A z.n z.c)/\Below w5.heap.size w5 V from⟨zf hb d13,zf hb d14,zf hb d15,zf hb cA,hb⟩));by_cases ha:a<wn
  ·obtain⟨wb,wo,x,rfl,b5,hY,HC⟩:=h0.o.wd.1.int_at h0.o.wd.2 ha;have hx:=hwx x (jx hY);obtain⟨j,hj⟩:=First.ex (tb sg'.r z.n z.n) x;have a5:=GY (by have:=H2.r;omega) hE.o.mn hx.2 hj;have HJ:=ze hj;have H7:=ze hY;have hB:=ze (fun W(hb:Below w5.heap.size w5 W)=>ZL wb wo wn wk a x (by omega) W z.A z.n z.c w5.heap.size _ (hE.o.rd.below hb) HM HP hb.size ha ((hb.cell (p:=⟨wb,wo+a,none⟩) (show wb<w5.heap.size by omega)).trans HC) hx.1 hx.2 HI j hj);have hu:=ze hE.o.mn;clear hj hY HC;have Hc:=ze h0.o.wd.2;have h9:ws.length=wn:=h0.o.wd.2;go_upto_region 6 with(fail)
   go_cut [7,8,9] (fun v7 v8 v9 wx=>v7=O J j/\v9=O J 0/\Below w5.heap.size w5 wx/\∃ q8,v8=.pointer (some ⟨q8,0,none⟩)/\w5.heap.size<=q8/\q8<wx.heap.size/\Bx wx q8 [.slice (some ⟨wb,wo,none⟩) wn wk,O J ((a:Int)+1)])
   case first=>
    have SB:=ze (fun W{b c d e:Prop}(h:b/\c/\d/\e/\Below w5.heap.size w5 W)=>h.2.2.2.2);refine wp_region_held_drew (S:=(fun V=>V.cell? ⟨g,13,none⟩=some (.slice (some ⟨wb,wo,none⟩) wn wk)/\V.cell? ⟨g,14,none⟩=some (O J a)/\V.cell? ⟨g,15,none⟩=some (.slice (some ⟨q,0,none⟩) Z.length zk)/\V.cell? ⟨q,i*2,none⟩=some (.slice z.A z.n z.c)/\Below w5.heap.size w5 V)) (by kernel_rfl) ?_ (fun hHeld=>?_)
    ·exact MK.o _ fh.drew
    refine qK [0,1,2,3,4,5,6,7,8,9,10,11] (by simp[zl];rfl) (by kernel_rfl) (by assumption) ?_
    iterate 12 (refine qz (v:=?_) (fun _ _ _ h=>h) (by rfl) ?_ ?_;rotate_left;(next=>((intro w he;(try dsimp only at he);go_simp);(try with_reducible rfl)));try go_frame)
    refine qL ?_
    iterate 5
     all_goals first
      |(refine jj [12,17] (by decide+kernel) ?_;refine j6 (by simp[zl];rfl) rfl (fun K hK=>?_) (j6 (by simp[zl];rfl) rfl (fun K hK=>?_) ym))
      |(refine jj [17] (by decide+kernel) ?_;refine j6 (by simp[zl];rfl) rfl (fun K hK=>?_) ym)
      |(refine jj [12] (by decide+kernel) ?_;refine j6 (by simp[zl];rfl) rfl (fun K hK=>?_) ym)
      |(refine jj [18] (by decide+kernel) ?_;refine j6 (by simp[zl];rfl) rfl (fun K hK=>?_) ym)
      |(refine jj [19] (by decide+kernel) ?_;refine j6 (by simp[zl];rfl) rfl (fun K hK=>?_) ym)
      |(refine jj [20] (by decide+kernel) ?_;refine j6 (by simp[zl];rfl) rfl (fun K hK=>?_) ym)
     all_goals go_simp
     all_goals first
      |(have h7:=SB.o _ hHeld;go_at_call 51;(with_reducible refine(hB.o _ h7).mono ?_);rintro e w6 ⟨rfl,h3⟩;have h4:=ze (h7.trans (h3.mono h7.size));have ad:=h4.o.size;(try(have ai:w5.heap.size<w6.heap.size:=(by have:=h3.size;simp at this;omega);have b0:w6.cell? ⟨w5.heap.size,0,none⟩=some (.slice none 0 0):=zf h3 (by simp);have b1:w6.cell? ⟨w5.heap.size,1,none⟩=some (O J 0):=zf h3 (by simp);have y0:w6.frozen? ⟨w5.heap.size,0,none⟩=false:=zG h3 (by simp) (by simp);have y1:w6.frozen? ⟨w5.heap.size,1,none⟩=false:=zG h3 (by simp) (by simp)));clear h3 h7;refine hK.out _ _ ?_ (fun hHeld=>?_);(next=>((refine MK.o _ ?_);(first|(with_reducible exact h4.o)|(go_grown;done)|(go_grown;with_reducible exact h4.o))));clear hK K;try go_frame)
      |(refine hK.out _ _ ?_ (fun hHeld=>?_);(next=>((refine MK.o _ ?_);(first|(with_reducible exact h4.o)|(go_grown;done)|(go_grown;with_reducible exact h4.o))));clear hK K;try go_frame)
     all_goals try(refine qK [13,14,15,16] (by simp[zl];rfl) (by decide+kernel) (by assumption) ?_;(iterate 4 (refine qz (v:=?_) (fun _ _ _ h=>h) (by rfl) ?_ ?_;rotate_left;(next=>((intro w he;(try dsimp only at he);go_simp);(try with_reducible rfl)));try go_frame));refine qL ?_)
    all_goals
     refine wpAnyH_done (by kernel_rfl) ?_ _;go_wp2_with fail
     go_meet
     refine⟨rfl,rfl,SB.o _ hHeld,_,rfl,?_,?_,?_⟩
     ·first|exact fi|omega
     ·simp<;>omega
     ·first|(exact ur b0 b1 y0 y1 _ _)|(exact dN (by simp) (by simp))
   case rest=>
    obtain⟨rfl,rfl,hm,q8,rfl,a7,a9,h8⟩:=hcut;have hC:=ze (h0.o.below hm);have hq:=ze (h5.o.trans (hm.mono h5.o.size));have HT:=ze (by have:=hC.o.at14 (a+1);rwa [show((a+1:Nat):Int)=(a:Int)+1 by omega]at this);obtain⟨⟨p0,p1⟩,-⟩:=h8.o2;obtain⟨⟨-,-,d13,d14,-,-,-⟩,j13,j14,-,-,-⟩:=hC.o.cells;have a4:g<wc.heap.size:=hC.o.lt;clear hm h8 MK hB d17 d15 d8 cA cB j15 j16 j17 k2 h0;go_upto_region 10 with(fail);refine Vc (fun W=>Gn s (some ⟨sb,so,none⟩) sn sk (some ⟨wb,wo,none⟩) wn wk ws g (.slice (some ⟨q,0,none⟩) Z.length zk) Z t (a+1) n W/\But (fun k=>k=g) w W/\w.heap.size<=W.heap.size) ⟨HT.o.1,(But.of_below hq.o).trans HT.o.2 (fun _ _ h=>h),by have:=HT.o.2.size;have:=hq.o.size;omega⟩ ?_;clear HT hq hC p0 p1 d13 d14 j13 j14 a4;rintro W ⟨hX,HA,HQ⟩;have hO:=ze hX;have H4:=ze HA;have a0:=ze HQ;obtain⟨⟨-,-,-,-,-,-,c17⟩,-⟩:=hX.cells;have b2:¬ (4194304:Int)<(n:Int)+(j:Int):=by omega
    clear hX HA HQ;go_wp2_with fail;clear c17;have hS:=ze (show g<W.heap.size from hO.o.lt)
    go_loopw [6,73] (fun v i wr=>∃(l:Nat)(P:List Pa),l<=j/\i=O J l/\P.length=l/\Own wr W.heap.size 117 4 Wl v P/\Crowd s t n P/\Gn s (some ⟨sb,so,none⟩) sn sk (some ⟨wb,wo,none⟩) wn wk ws g (.slice (some ⟨q,0,none⟩) Z.length zk) Z t (a+1+l) (n+l) wr/\But (fun k=>k=g) W wr/\a+1+l<=wn) (fun _ i _=>j-(intOf i).toNat)
    case atStart=>exact⟨0,[],vf _,rfl,rfl,Own.nil _ _ _ _ _,Crowd.nil _ _ _,hO.o,But.refl _ _,by omega⟩
    case round=>
     obtain⟨l,P,hl,rfl,hG,ho,HB,hU,hT,HE⟩:=hrel;have HO:=ze ho;have H5:=ze HB;have hp:=ze hU;have hN:=ze hT;have a6:g<wr.heap.size:=hU.lt;have b7:=hT.size;clear ho HB hU hT;by_cases ao:l<j
     ·obtain⟨q2,zk2,z2,sg2,ac,a8,HN,ab,H0,cA,cB⟩:=hp.o.src (show i<Z.length by omega);cases ac;have af:z2=z:=by have:=HZ.o;rw[HN]at this;cases this;rfl
      subst af;obtain⟨⟨-,-,-,-,d15,-,-⟩,-⟩:=hp.o.cells;have al:(i:Int)<(Z.length:Int):=by omega
      have i1:(l:Int)<(j:Int):=by omega
      clear ab H0 HN;by_cases a2:a+1+l<wn
      ·have hQ:=ze (bO s (some ⟨sb,so,none⟩) sn sk (some ⟨wb,wo,none⟩) wn wk ws g _ Z t (a+1+l) (n+l) wr hs hf hp.o (by omega) a2 hwx (by omega) (by omega) i z2 sg' HZ.o hD.o);have a1:P.length<=1000000000:=by omega
       go_upto_region 17 with((go_at_call 52;(with_reducible refine hQ.o.mono ?_);rintro r w7 ⟨⟨y0,y1,rfl,y2⟩,HD,hg⟩;have HY:=ze y2;have H6:=ze HD;have hM:=ze hg;have hP:=ze (HO.o.but hg (fun k e=>fun e2=>by have:=(HO.o.row.lt k e).1;have:=hS.o;omega));have b6:=hg.size;clear y2 HD hg));go_wp2_with(at_builtin;refine kG (P:=prog) rfl _ _ 30 rfl underlying30 Pa.info rfl (by omega) (by omega) rfl ((hP.o.alloc _).alloc _) (⟨(n:Int)+(l:Int),t,y0,y1⟩:Pa) ⟨_,0,none⟩ 1 rfl rfl (zr _ _ (Wl ⟨(n:Int)+(l:Int),t,y0,y1⟩) _ (by simp)) (YC _) a1 (by simp;omega) ?_;intro v' w8 k1 k2 k3;have K1:=ze k1;have K2:=ze k2;clear k1 k2 k3);go_roundw
       case rel=>
        have Hw:But (fun k=>k=g) W w8:=(((hN.o.trans hM.o (fun _ _ h=>h)).then_ ((Below.refl _ w7).alloc fi _)).then_ (fh.alloc fi _)).grown K2.o (fun k hk hl=>by have:=(hP.o.row.lt k hk).1;omega);have hm:=((H6.o.bx.alloc (by simp) (.cells #[O J ((n:Int)+(l:Int)),O J t,O J y0,O J y1] 117)).alloc (by simp) (.cells #[O J ((n:Int)+(l:Int)),O J t,O J y0,O J y1] 117)).block (K2.o.block g (by have:=H6.o.lt;simp;omega) (fun e=>by have:=(hP.o.row.lt g e.symm).1;have:=hS.o;omega));exact⟨l+1,_,by omega,by go_num,by simp[hG],K1.o,H5.o.snoc _ (by show(n:Int)+(l:Int)=_;rw[hG];omega) ⟨rfl,HY.o⟩,hO.o.turn Hw hm,Hw,by omega⟩
       case measure=>simp[intOf];omega
      ·have hQ:=ze (Vd s (some ⟨sb,so,none⟩) sn sk (some ⟨wb,wo,none⟩) wn wk ws g _ Z t (a+1+l) (n+l) wr hp.o (by omega) (by omega) z2);go_wp2_with(go_at_call 52;(with_reducible refine hQ.o.mono ?_);rintro r w7 ⟨rfl,hg⟩;have hM:=ze hg;clear hg);have HR:=ze (show∀k,Run (s.segs.map qF) ws (k+1) t a n none from fun k=>Run.dry2 k t a n i (qF sg') x z2.n j hy.o h6.o hR.o H7.o hu.o HJ.o (by rw[h9];omega));go_ret2;exact .inl ⟨rfl,HR.o,((H4.o.trans hN.o (fun _ _ h=>h)).then_ hM.o).then_ (fh.alloc fi _)⟩
     ·obtain rfl:l=j:=by omega
      obtain⟨⟨-,-,-,-,-,c16,-⟩,-,-,-,f16,-⟩:=hp.o.cells;have HT:=ze (by have:=hp.o.at16 (t+1);rwa [show((t+1:Nat):Int)=(t:Int)+1 by omega]at this);have Hj:=HO.o.but HT.o.2 (fun k e e2=>by have:=(HO.o.row.lt k e).1;have:=hS.o;have e3:k=g:=e2;omega);have Hk:=HO.o.row.lt;obtain⟨pA,pc,rfl,-,HF⟩:=Hj.shape;have HU:=ze (show∀b off,pA=some ⟨b,off,none⟩->w.heap.size<=b from fun b off e=>by subst e;have:=(Hk b rfl).1;have:=a0.o;omega);have HW:=ze HF;have hF:=ze hG;clear Hj Hk HF hG;go_wp2_with fail;go_ret2;refine .inr ⟨pA,pc,a+1+l,P,rfl,HW.o,HU.o,H5.o,by have:=hF.o;omega,by have:=hF.o;omega,by rw[hF.o];exact HT.o.1,(H4.o.trans hN.o (fun _ _ h=>h)).trans HT.o.2 (fun _ _ h=>h),HE,fun k r h=>?_⟩;rw[hF.o]at h;exact Run.some k t a n i (qF sg') x z.n l r hy.o h6.o hR.o H7.o hu.o HJ.o (by rw[h9];exact HE) h
  ·have hB:=ze (fun W(hb:Below w5.heap.size w5 W)=>ZK wA wn wk a (by omega) W z.A z.n z.c w5.heap.size _ (hE.o.rd.below hb) HM HP hb.size HI (.inr (by omega)));go_upto_region 6 with(fail)
   go_cut [7,8,9] (fun v7 v8 v9 wx=>v7=O J 0/\v9=O J 50/\Below w5.heap.size w5 wx/\∃ q8,v8=.pointer (some ⟨q8,0,none⟩)/\w5.heap.size<=q8/\q8<wx.heap.size/\Bx wx q8 [.slice wA wn wk,O J a])
   case first=>
    have SB:=ze (fun W{b c d e:Prop}(h:b/\c/\d/\e/\Below w5.heap.size w5 W)=>h.2.2.2.2);refine wp_region_held_drew (S:=(fun V=>V.cell? ⟨g,13,none⟩=some (.slice wA wn wk)/\V.cell? ⟨g,14,none⟩=some (O J a)/\V.cell? ⟨g,15,none⟩=some (.slice (some ⟨q,0,none⟩) Z.length zk)/\V.cell? ⟨q,i*2,none⟩=some (.slice z.A z.n z.c)/\Below w5.heap.size w5 V)) (by kernel_rfl) ?_ (fun hHeld=>?_)
    ·exact MK.o _ fh.drew
    refine qK [0,1,2,3,4,5,6,7,8,9,10,11] (by simp[zl];rfl) (by kernel_rfl) (by assumption) ?_
    iterate 12 (refine qz (v:=?_) (fun _ _ _ h=>h) (by rfl) ?_ ?_;rotate_left;(next=>((intro w he;(try dsimp only at he);go_simp);(try with_reducible rfl)));try go_frame)
    refine qL ?_
    iterate 5
     all_goals first
      |(refine jj [12,17] (by decide+kernel) ?_;refine j6 (by simp[zl];rfl) rfl (fun K hK=>?_) (j6 (by simp[zl];rfl) rfl (fun K hK=>?_) ym))
      |(refine jj [17] (by decide+kernel) ?_;refine j6 (by simp[zl];rfl) rfl (fun K hK=>?_) ym)
      |(refine jj [12] (by decide+kernel) ?_;refine j6 (by simp[zl];rfl) rfl (fun K hK=>?_) ym)
      |(refine jj [18] (by decide+kernel) ?_;refine j6 (by simp[zl];rfl) rfl (fun K hK=>?_) ym)
      |(refine jj [19] (by decide+kernel) ?_;refine j6 (by simp[zl];rfl) rfl (fun K hK=>?_) ym)
      |(refine jj [20] (by decide+kernel) ?_;refine j6 (by simp[zl];rfl) rfl (fun K hK=>?_) ym)
     all_goals go_simp
     all_goals first
      |(have h7:=SB.o _ hHeld;go_at_call 51;(with_reducible refine(hB.o _ h7).mono ?_);rintro e w6 ⟨rfl,h3⟩;have h4:=ze (h7.trans (h3.mono h7.size));have ad:=h4.o.size;(try(have ai:w5.heap.size<w6.heap.size:=(by have:=h3.size;simp at this;omega);have b0:w6.cell? ⟨w5.heap.size,0,none⟩=some (.slice none 0 0):=zf h3 (by simp);have b1:w6.cell? ⟨w5.heap.size,1,none⟩=some (O J 0):=zf h3 (by simp);have y0:w6.frozen? ⟨w5.heap.size,0,none⟩=false:=zG h3 (by simp) (by simp);have y1:w6.frozen? ⟨w5.heap.size,1,none⟩=false:=zG h3 (by simp) (by simp)));clear h3 h7;refine hK.out _ _ ?_ (fun hHeld=>?_);(next=>((refine MK.o _ ?_);(first|(with_reducible exact h4.o)|(go_grown;done)|(go_grown;with_reducible exact h4.o))));clear hK K;try go_frame)
      |(refine hK.out _ _ ?_ (fun hHeld=>?_);(next=>((refine MK.o _ ?_);(first|(with_reducible exact h4.o)|(go_grown;done)|(go_grown;with_reducible exact h4.o))));clear hK K;try go_frame)
     all_goals try(refine qK [13,14,15,16] (by simp[zl];rfl) (by decide+kernel) (by assumption) ?_;(iterate 4 (refine qz (v:=?_) (fun _ _ _ h=>h) (by rfl) ?_ ?_;rotate_left;(next=>((intro w he;(try dsimp only at he);go_simp);(try with_reducible rfl)));try go_frame));refine qL ?_)
    all_goals
     refine wpAnyH_done (by kernel_rfl) ?_ _;go_wp2_with fail
     go_meet
     refine⟨rfl,rfl,SB.o _ hHeld,_,rfl,?_,?_,?_⟩
     ·first|exact fi|omega
     ·simp<;>omega
     ·first|(exact ur b0 b1 y0 y1 _ _)|(exact dN (by simp) (by simp))
   case rest=>
    obtain⟨rfl,rfl,hm,q8,rfl,a7,a9,h8⟩:=hcut;have Hc:=ze h0.o.wd.2;have hq:=ze (h5.o.trans (hm.mono h5.o.size));clear h8;go_wp2_with fail;go_ret2;exact .inl ⟨rfl,fun k=>Run.dry k t a n i (qF sg') hy.o h6.o hR.o (by rw[Hc.o];omega),But.of_below hq.o⟩
end
theorem jW{fn:Func}{p t u:Tmp}{ty:TypeId}(h:fn.results= #[.tmp t,.cell p ty,.tmp u])(tmps:Array Value)(P:Program)(w:l6):
  (results fn tmps).run P w=((asAddr (tmps.getD p undef)).run P w).andThen fun a w₁=>((loadVar ty a).run P w₁).andThen fun v w₂=>.ok (.tuple #[tmps.getD t undef,v,tmps.getD u undef]) w₂:=by
 simp only[results,h];simp[Sem.run_bind,Result.andThen]
structure Folk(s:Sc)(t:Nat)(P:List Pa):Prop where
 id:∀(j:Nat)(p:Pa),P[j]?=some p->p.id=(j:Int)
 ok:∀ p∈P,0<=p.tick/\p.tick<(t:Int)/\0<=p.frm/\p.frm<s.fl/\0<=p.to_/\p.to_<s.fl/\p.frm≠p.to_
 srt:P.Pairwise fun p q=>p.tick<=q.tick
theorem Folk.nil(s:Sc):Folk s 0 []:=⟨fun j p h=>by simp at h,fun p h=>by simp at h,dU⟩
theorem Folk.more{s:Sc}{t:Nat}{P Q:List Pa}(h:Folk s t P)(k:Crowd s t P.length Q):Folk s (t+1) (P++Q):=by
 refine⟨fun j p hp=>?_,fun p hp=>?_,XZ.2 ⟨h.srt,?_,fun p hp q hq=>?_⟩⟩
 ·rw[List.getElem?_append]at hp;split at hp
  ·exact h.id j p hp
  ·rw[k.id _ p hp];omega
 ·rcases yp.1 hp with hp|hp
  ·have:=h.ok p hp;exact⟨this.1,by omega,this.2.2⟩
  ·have:=k.ok p hp;exact⟨by omega,by omega,this.2⟩
 ·exact List.pairwise_of_forall_mem_list fun p hp q hq=>by have:=(k.ok p hp).1;have:=(k.ok q hq).1;omega
 ·have:=(h.ok p hp).2.1;have:=(k.ok q hq).1;omega
theorem Folk.pas{s:Sc}(hs:s.ok){t:Nat}{P:List Pa}(h:Folk s t P)(ht:t<=1000000):Pas 0 P:=
 ⟨fun j p hp=>by rw[h.id j p hp,Wa],fun p hp=>by have:=h.ok p hp;have:=hs.fl;omega,h.srt⟩
def Zi(g:Nat)(w:l6):Nat:=match w.cell? ⟨g,16,none⟩with|some (.int _ z)=>z.toNat|_=>0
def dQ(s:Sc)(wA:iX)(wn wc:Nat)(ws:l8)(w:l6)(e:Ending)(w':l6):Prop:=
 Below w.heap.size w w'/\∃ r,Run (s.segs.map qF) ws (qw (s.segs.map qF) s.hor) 0 0 0 r/\
  ((r=none/\e=.returned (.tuple #[.slice none 0 0,.agg #[.slice wA wn wc,O J 0],O J 50]))\/
   ∃(A:iX)(c a:Nat)(P:List Pa),r=some (a,P.length)/\e=.returned (.tuple #[.slice A P.length c,.agg #[.slice wA wn wc,O J a],O J 0])/\HB.Rd w' w'.heap.size 4 A P.length (P.flatMap Wl)/\P.length<=c/\Folk s (qw (s.segs.map qF) s.hor) P/\P.length<=a/\a<=wn)
theorem Vg(s:Sc)(hs:s.ok)(hf:s.fl<=20)(hh:s.hor<=10000)(sA:iX)(sn sk:Nat)(wA:iX)(wn wc:Nat)(ws:l8)(w:l6)(hg:Sgs w w.heap.size sA sn s.segs)(hw:HB.Rd w w.heap.size 1 wA wn (ws.map (Value.int .u32))/\ws.length=wn)(hwn:wn<=100000)(hwx:∀ x∈ws,0<=x/\x<=4294967295):
  Calls prog 8 #[s.v sA sn sk,.agg #[.slice wA wn wc,O J 0]] w (dQ s wA wn wc ws w):=by
 have HF:=hs.hor;have hN:=ze (fun W(hb:Below w.heap.size w W)=>Hg s hs hf sA sn sk wA wn wc ws W ((hg.below hb).mono hb.size) ⟨(hw.1.below hb).mono hb.size,hw.2⟩);have hI:=ze (Bs.three w (s.ls sA sn sk) [.slice wA wn wc,O J 0] [.slice none 0 0,O J 0] 25 32 32);have hT:∀ t:Nat,t<qw (s.segs.map qF) s.hor↔(t:Int)<s.hor/\(t:Int)<tot (s.segs.map qF):=fun t=>by unfold qw;omega
 have HD:qw (s.segs.map qF) s.hor<=10000:=by unfold qw;omega
 have HT:=ze hT;clear hg hw hT;generalize hQ:qw (s.segs.map qF) s.hor=T at*;have hy:=ze hQ;clear hQ
 go_in
 go_upto_region 4 with(go_at_call 25;(with_reducible refine(hN.o _ (by go_grown)).mono ?_);rintro r w1 ⟨g,v,Z,rfl,h3,hV,hF⟩;have ht:=ze h3;have hl:=ze (hI.o.step hV);have hL:=ze hF;clear h3 hV hF);have hF:w.heap.size+1+1+1<=g:=by have:=hL.o;simpa using this
 have H8:=ze (hl.o.cell (q:=w.heap.size+1) (l:=[.slice wA wn wc,O J 0]) (by simp));have H9:=ze (hl.o.cell (q:=w.heap.size+1+1) (l:=[.slice none 0 0,O J 0]) (by simp));have hr:=ze hl.o.b;have H1:=hr.o.size;have hZ:g<w1.heap.size:=ht.o.lt;clear hN hI hl hL;go_wp2_with fail
 go_loopw [9] (fun o wr=>∃(t a:Nat)(P:List Pa),t<=T/\P.length<=a/\a<=wn/\Own wr w1.heap.size 117 4 Wl o P/\Folk s t P/\Gn s sA sn sk wA wn wc ws g v Z t a P.length wr/\But (fun k=>k=g) w1 wr/\∀ r,Run (s.segs.map qF) ws (T-t) t a P.length r->Run (s.segs.map qF) ws T 0 0 0 r) (fun _ wr=>T-Zi g wr)
 case atStart=>exact⟨0,0,[],vf _,fi,vf _,Own.nil _ _ _ _ _,Folk.nil s,ht.o,But.refl _ _,fun r h=>h⟩
 case round=>
  obtain⟨t,a,P,HI,hP,hU,ho,hY,h3,ha,hj⟩:=hrel;have HO:=ze ho;have hJ:=ze hY;have hM:=ze h3;have hq:=ze ha;have h4:=ze hj;have H7:=ze (show Zi g wr=t from by unfold Zi;rw[(h3.bx 16 _ rfl).1];simp);have h6:=ze (Ve s sA sn sk wA wn wc ws g v Z t a P.length wr hs h3);have hR:=H8.o.but ha (by omega) (by show¬w.heap.size+1=g;omega);have hS:=H9.o.but ha (by omega) (by show¬w.heap.size+1+1=g;omega);have HJ:=ha.size;have hz:=ze hR;have h7:=ze hS;clear ho hY h3 ha hj hR hS;by_cases Hk:t<T
  ·have h2:=(HT.o t).1 Hk;have eov:decide (s.hor<=(t:Int)\/tot (s.segs.map qF)<=(t:Int))=false:=by simp;omega
   rw[eov]at h6;have HN:=ze (fun W(hb:Below wr.heap.size wr W)=>He s sA sn sk wA wn wc ws g v Z t a P.length W hs hf (hM.o.below hb) hwn hwx hP hU (by omega) h2.1 h2.2);clear eov;go_upto_region 6 with(go_at_call 26;(with_reducible refine h6.o.mono ?_);rintro r w2 ⟨rfl,h8⟩;have h0:=ze h8;clear h8);have hO:=ze (HN.o _ h0.o);clear HN h6;go_upto_region 7 with(fail);refine hO.o.mono ?_;have HA:=h0.o.size;have hm:=ze (show Below w.heap.size w w2 from(hr.o.trans (hq.o.below (fun k hk=>by have e:k=g:=hk;omega) H1)).trans (h0.o.mono (by omega)));have hA:=ze (hz.o.below h0.o (by omega));have hB:=ze (h7.o.below h0.o (by omega));clear hO;rintro r w3 (⟨rfl,he,h1⟩|⟨A,c,a',P',rfl,H0,-,hX,HE,Ha,h3,h1,hD,he⟩)
   ·have hv:=ze he;have hn:=ze h1;have HC:=h1.size;obtain⟨⟨x0,x1⟩,-⟩:=(hA.o.but h1 (by omega) (by show¬w.heap.size+1=g;omega)).o2;obtain⟨⟨y0,y1⟩,y2,y3⟩:=(hB.o.but h1 (by omega) (by show¬w.heap.size+1+1=g;omega)).o2;have HH:w.heap.size+1<w3.heap.size:=by omega
    have Hw:w.heap.size+1+1<w3.heap.size:=by omega
    clear he h1;go_wp2_with fail;go_region;go_wp2_with fail;refine bodyPost_ret (v:=.tuple #[.slice none 0 0,.agg #[.slice wA wn wc,O J 0],O J 50]) (by rw[jW rfl];go_simp) rfl ?_;have hE:Below w.heap.size w w3:=hm.o.trans (hn.o.below (fun k hk=>by have e:k=g:=hk;omega) (by omega));refine⟨?_,none,?_,.inl ⟨rfl,rfl⟩⟩
    ·exact(((hE.drew).setCell (p:=⟨w.heap.size+1+1,0,none⟩) (by show w.heap.size<=w.heap.size+1+1;omega) _).setCell (p:=⟨w.heap.size+1+1,1,none⟩) (by show w.heap.size<=w.heap.size+1+1;omega) _)
    ·rw[hy.o];exact h4.o _ (by rw[show T-t=(T-t-1)+1 by omega];exact hv.o _)
   ·have H6:=ze H0;have H2:=ze hX;have h5:=ze h3;have hn:=ze h1;have hv:=ze he;have HC:=h1.size;have hC:=HO.o.below h0.o;have H4:=ze (hC.but h1 (fun k e e2=>by have:=(hC.row.lt k e).1;have e3:k=g:=e2;omega));have Hc:P.length<=1000000000:=by omega
    clear H0 hX h3 h1 he hC;go_wp2_with(at_builtin;refine qe (P:=prog) rfl _ _ 30 rfl underlying30 Pa.info rfl (by omega) (by omega) rfl H4.o P' w3.heap.size A P'.length c rfl rfl H6.o (fun u hu=>by obtain⟨p,-,hp⟩:=iW.1 hu;exact YC p u hp) Hc (by omega) (by omega) ?_;intro v' w8 k1 k2;have K1:=ze k1;have K2:=ze k2;clear k1 k2);go_roundw
    case rel=>
     have hW:But (fun k=>k=g) w1 w8:=(((hq.o.then_ h0.o).trans hn.o (fun _ _ h=>h)).trans (Y:=fun k=>w1.heap.size<=k) ⟨K2.o.os,K2.o.tape,K2.o.output,K2.o.size,fun k hk hx=>K2.o.block k (by omega)⟩ (fun i hi hx=>absurd hx (by omega)));refine⟨t+1,a',P++P',by omega,by simp;omega,hD,K1.o,hJ.o.more H2.o,ht.o.turn hW (by rw[kC];exact h5.o.bx.below K2.o hZ),hW,fun r h=>h4.o r ?_⟩;rw[show T-t=(T-(t+1))+1 by omega];exact hv.o _ r (by rw[kC]at h;exact h)
    case measure=>
     rw[H7.o,show Zi g w8=t+1 from by unfold Zi;rw[((h5.o.bx.below K2.o hZ) 16 _ rfl).1];simp];omega
  ·obtain rfl:t=T:=by omega
   have eov:decide (s.hor<=(t:Int)\/tot (s.segs.map qF)<=(t:Int))=true:=by have:=(HT.o t).2;simp;omega
   rw[eov]at h6;clear eov;go_upto_region 10 with(go_at_call 26;(with_reducible refine h6.o.mono ?_);rintro r w2 ⟨rfl,h8⟩;have h0:=ze h8;clear h8);have HA:=h0.o.size;have H3:=ze (hM.o.below h0.o);obtain⟨⟨-,-,c13,c14,-,-,-⟩,-⟩:=H3.o.cells;obtain⟨⟨y0,y1⟩,y2,y3⟩:=(h7.o.below h0.o (by omega)).o2;have Hw:w.heap.size+1+1<w2.heap.size:=by omega
   have Hj:g<w2.heap.size:=by omega
   have HG:¬ g=w.heap.size+1+1:=by omega
   have h9:Below w.heap.size w w2:=(hr.o.trans (hq.o.below (fun k hk=>by have e:k=g:=hk;omega) H1)).trans (h0.o.mono (by omega));have hm:=ze h9;obtain⟨pA,pc,rfl,Ho,Hs⟩:=HO.o.shape;have hG:=(HO.o.below h0.o);have hc:=HB.Own.but hG (X:=fun k=>k=w.heap.size+1+1) (((But.refl (fun k=>k=w.heap.size+1+1) w2).set (a:=⟨w.heap.size+1+1,0,none⟩) (.inl rfl) (.slice wA wn wc)).set (a:=⟨w.heap.size+1+1,1,none⟩) (.inl rfl) (O J a)) (fun k e e2=>by have:=(hG.row.lt k e).1;have e3:k=w.heap.size+1+1:=e2;omega);obtain⟨pA',pc',Hq,-,hd⟩:=hc.shape;cases Hq;have H5:=ze hd;clear Hs hG hc hd h9;go_wp2_with fail;go_region;go_wp2_with fail;refine bodyPost_ret (v:=.tuple #[.slice pA P.length pc,.agg #[.slice wA wn wc,O J a],O J 0]) (by rw[jW rfl];go_simp) rfl ?_;refine⟨?_,some (a,P.length),?_,.inr ⟨pA,pc,a,P,rfl,rfl,?_,Ho,?_,hP,hU⟩⟩
   ·exact(((hm.o.drew).setCell (p:=⟨w.heap.size+1+1,0,none⟩) (by show w.heap.size<=w.heap.size+1+1;omega) _).setCell (p:=⟨w.heap.size+1+1,1,none⟩) (by show w.heap.size<=w.heap.size+1+1;omega) _)
   ·rw[hy.o];exact h4.o _ (by rw[Nat.sub_self];exact Run.done _ _ _)
   ·exact H5.o
   ·rw[hy.o];exact hJ.o
end
end Go.Proofs.YtdeogmbfgkepeaaGreatDoor
