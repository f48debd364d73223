/- Contracts for WholeDelivers. -/
import Derived.Test.YtdeogmbfgkepeaaGreatDoorR23
import Derived.Test.YtdeogmbfgkepeaaGreatDoorR48
set_option linter.unusedVariables false
set_option linter.unusedSimpArgs false
set_option maxRecDepth 100000
set_option maxHeartbeats 64000000
namespace Go.Proofs.YtdeogmbfgkepeaaGreatDoor
open Go.Proofs.Tryz
section
open Go.RowKit HB Go.Maps CalP HeapP
theorem LgRow.info:(prog.info? 266).map (fun i=>(i.zero,i.size,i.bytes))=some (some (.slice none 0 0),1,24):=by kernel_rfl
theorem bC(r:LgRow):∀ u∈dl r,u.oneCell'=true:=by simp[Value.oneCell']
structure LRok(w:l6)(B:Nat)(r:LgRow):Prop where
 rd:Rd w B 4 r.A r.n (r.l.flatMap QX)
 len:r.l.length=r.n
 n:r.n<=1000000
 lt:∀ b off,r.A=some ⟨b,off,none⟩->b<B
 x:∀ g∈r.l,g.ok
theorem LRok.below{w w':l6}{B:Nat}{r:LgRow}(h:LRok w B r)(hb:Below B w w'):LRok w' B r:=⟨h.rd.below hb,h.len,h.n,h.lt,h.x⟩
theorem LRok.mono{w:l6}{B B':Nat}{r:LgRow}(h:LRok w B r)(hb:B<=B'):LRok w B' r:=⟨h.rd.mono hb,h.len,h.n,fun b off e=>kK (h.lt b off e) hb,h.x⟩
theorem KU{w w':l6}{B sz n:Nat}{A:iX}{xs:iZ}{X:Nat->Prop}(h:Rd w B sz A n xs)(hB:B<=w.heap.size)(hb:But X w w')(hx:∀ b off,A=some ⟨b,off,none⟩->¬ X b):Rd w' B sz A n xs:=by
 refine⟨h.1,fun hn=>?_⟩;obtain⟨b,off,h1,h2,h3⟩:=h.2 hn;exact⟨b,off,h1,h2,fun j u hu=>(vg (a:=⟨b,off+j,none⟩) (hb.block b (by omega) (hx b off h1))).trans (h3 j u hu)⟩
structure LRs(w:l6)(base:Nat)(v:Value)(R:List LgRow):Prop where
 own:HB.Own w base 266 1 dl v R
 ok:∀ r∈R,LRok w w.heap.size r/\∀ b off,r.A=some ⟨b,off,none⟩->v.ownBlock≠some b
theorem LRs.nil(w:l6)(base:Nat):LRs w base (.slice none 0 0) []:=⟨HB.Own.nil _ _ _ _ _,fun r hr=>by cases hr⟩
theorem LRs.step{w w':l6}{base:Nat}{v:Value}{R:List LgRow}(h:LRs w base v R)(hb:Below w.heap.size w w'):LRs w' base v R:=
 ⟨h.own.below hb,fun r hr=>⟨((h.ok r hr).1.below hb).mono hb.size,(h.ok r hr).2⟩⟩
theorem LRs.push{w w':l6}{base:Nat}{v v':Value}{R:List LgRow}{r:LgRow}(h:LRs w base v R)(hr:LRok w w.heap.size r)(hn:∀ b off,r.A=some ⟨b,off,none⟩->v.ownBlock≠some b)
  (ho:HB.Own w' base 266 1 dl v' (R++[r]))(hg:w.grownBy w' v.ownBlock)(hv:v'.ownBlock=v.ownBlock\/v'.ownBlock=some w.heap.size):LRs w' base v' (R++[r]):=by
 have hb:But (fun k=>v.ownBlock=some k) w w':=(But.refl _ w).grown hg (fun q hq _=>hq);have key:∀ r:LgRow,LRok w w.heap.size r->(∀b off,r.A=some ⟨b,off,none⟩->v.ownBlock≠some b)->LRok w' w'.heap.size r/\∀ b off,r.A=some ⟨b,off,none⟩->v'.ownBlock≠some b:=by
  intro r h1 h2;refine⟨⟨(KU h1.rd fi hb h2).mono hb.size,h1.len,h1.n,fun b off e=>kK (h1.lt b off e) hb.size,h1.x⟩,fun b off e e2=>?_⟩;rcases hv with hv|hv
  ·exact h2 b off e (hv▸e2)
  ·have:=h1.lt b off e;have h3:w.heap.size=b:=ve (hv.symm.trans e2);omega
 refine⟨ho,fun x hx=>?_⟩;rcases yp.1 hx with hx|hx
 ·exact key x (h.ok x hx).1 (h.ok x hx).2
 ·obtain rfl:=vN.1 hx;exact key _ hr hn
theorem LRs.cell{w:l6}{base q o:Nat}{v u:Value}{R:List LgRow}(h:LRs w base v R)(hq:q<base)(hR:∀ r∈R,∀b off,r.A=some ⟨b,off,none⟩->b≠q):LRs (w.setCell ⟨q,o,none⟩ u) base v R:=by
 have hb:But (fun k=>k=q) w (w.setCell ⟨q,o,none⟩ u):=(But.refl (fun k=>k=q) w).at1 rfl o u;refine⟨h.own.but hb (fun k hk e=>by have:=(h.own.row.lt k hk).1;omega),fun r hr=>⟨?_,(h.ok r hr).2⟩⟩;have h1:=(h.ok r hr).1;exact⟨(KU h1.rd fi hb (hR r hr)).mono hb.size,h1.len,h1.n,fun b off e=>kK (h1.lt b off e) hb.size,h1.x⟩
theorem LRs.lgs{w:l6}{base:Nat}{v:Value}{R:List LgRow}(h:LRs w base v R):∃ A c,v=.slice A R.length c/\Lgs w w.heap.size A R.length R:=by
 obtain⟨A,c,h1,-,h3⟩:=h.own.shape;exact⟨A,c,h1,h3,rfl,fun r hr=>⟨(h.ok r hr).1.rd,(h.ok r hr).1.len,by have:=(h.ok r hr).1.n;omega,(h.ok r hr).1.x⟩⟩
def eE(E:Egs)(w:l6)(e:Ending)(w':l6):Prop:=
 ∃(tv:Value)(lA:iX)(lk:Nat)(R:List LgRow),e=.returned (.agg #[tv,.slice lA R.length lk,.int .i64 0])/\HB.Own w' w.heap.size 87 7 kN tv E.trips/\Lgs w' w'.heap.size lA R.length R/\R.length=E.yn/\Below w.heap.size w w'
theorem GQ(l:List Tr):∀ u∈l.flatMap kN,u.oneCell'=true:=by
 intro u hu;obtain⟨g,-,h⟩:=iW.1 hu;exact JP g u h
theorem bD(base:Nat)(s:Sc)(sA:iX)(sn sk x:Nat)(E:Egs)(w:l6)(H:Eg base s sA sn sk x E w)(hn:E.yn<=16)(hb1:∀ b∈E.Y,b.t<=1000000)(htl:E.trips.length<=1000000):
  Calls prog 315 #[.pointer (some ⟨x,0,none⟩)] w (eE E w):=by
 have HH:=ze H;have H0:=ze hb1;obtain⟨tA,tc,hX,HM,hW⟩:=H.wd.tr.shape;obtain⟨⟨x0,-,-,-,-⟩,-,-⟩:=H.cells;have w15:=(H.wd.bx 15 _ rfl).1;rw[hX]at w15;have hL:=ze hW;have HO:x<w.heap.size:=H.cs.pl;have HN:E.wb<w.heap.size:=H.wd.bx.lt (by simp);have HL:=H.bs;have HP:=H.yl.2;clear H hb1 hX hW
 go_in
 go_upto_region 2 with(at_builtin;refine qe rfl _ _ 39 rfl underlying39 Trip.info rfl (by omega) (by omega) rfl (HB.Own.nil _ (w.heap.size+1) 87 7 kN) E.trips w.heap.size tA E.trips.length tc rfl rfl (hL.o.alloc fi _) (GQ _) (by simp) (by omega) (by simp) ?_;intro v1 w1 h7 hb1;have h4:HB.Own w1 (w.heap.size+1) 87 7 kN v1 E.trips:=h7;obtain⟨A1,c1,rfl,-,-⟩:=h4.shape;have hw:=ze h4;have h5:=ze hb1;clear h7 hb1 h4);have hZ:=h5.o.size;have hZ:w.heap.size+1<=w1.heap.size:=by simpa using hZ
 refine kx (W:=w1.alloc (.cells #[.slice A1 E.trips.length c1,.slice none 0 0,.int .i64 0] 42)) (fun V=>Bx V w1.heap.size [.slice A1 E.trips.length c1,.slice none 0 0,.int .i64 0]/\Bx V w.heap.size [.slice none 0 0,.slice none 0 0,.int .i64 0]/\HB.Own V (w.heap.size+1) 87 7 kN (.slice A1 E.trips.length c1) E.trips/\(∀k,(Value.slice A1 E.trips.length c1).ownBlock=some k->k<w1.heap.size)/\Below w.heap.size w V/\V.heap.size=w1.heap.size+1) ⟨Bx.new w1 [.slice A1 E.trips.length c1,.slice none 0 0,.int .i64 0] 42,(Bx.below (Bx.below (Bx.new w [.slice none 0 0,.slice none 0 0,.int .i64 0] 42) h5.o (by omega)) ((Below.refl w1.heap.size w1).alloc fi _) (by omega)),hw.o.alloc _,fun k hk=>(hw.o.row.lt k hk).2,(((Below.refl w.heap.size w).alloc fi _).trans (h5.o.mono (by omega))).trans ((Below.refl w.heap.size w1).alloc (by omega) _),by simp⟩ ?_;rintro V ⟨hc,hV,hO,hN,hE,HJ⟩;have H8:=ze hV;have H7:=ze hO;have H6:=ze hN;have hu:=ze hE;have hy:=ze hc;have hC:=HH.o.below hE;obtain⟨⟨-,-,-,x5,-⟩,-,-⟩:=hC.cells;have HI:=ze hC;clear hc hV hO hN hE x0 w15 hw h5 hL hC;generalize w1.heap.size=q3 at*;go_wp2_with fail
 go_loopw [19] (fun k wr=>∃(j:Nat)(A:iX)(c:Nat)(R:List LgRow),k=.int .i64 j/\j<=E.yn/\R.length=j/\Bx wr q3 [.slice A1 E.trips.length c1,.slice A j c,.int .i64 0]/\LRs wr V.heap.size (.slice A j c) R/\(∀r∈R,∀b off,r.A=some ⟨b,off,none⟩->V.heap.size<=b)/\But (fun k=>k=q3) V wr) (fun k _=>E.yn-(intOf k).toNat)
 case atStart=>exact⟨0,none,0,[],rfl,vf _,rfl,hy.o,LRs.nil V V.heap.size,(fun r hr=>by cases hr),But.refl _ V⟩
 case round=>
  obtain⟨j,A,c,R,rfl,hj,hQ,hc,hM,hP,h6⟩:=hrel;have hi:=ze hc;have hv:=ze hM;have hm:=ze hQ;have hz:=ze hP;have hs:=ze h6;have HQ:=h6.size;have hF:Below w.heap.size w wr:=hu.o.trans (h6.below (fun k e=>by omega) (by have:=hu.o.size;omega));have H1:=ze hF;have ha:=HH.o.below hF;have HG:=ze ha;have j0:(0:Int)<=(j:Int):=by omega
  have hd:q3<wr.heap.size:=by omega
  clear hc hM hQ hP h6 hF x5;by_cases HA:j<E.yn
  ·have j1:(j:Int)<(E.yn:Int):=by omega
   obtain⟨⟨-,-,-,x5,-⟩,-,-⟩:=ha.cells;have hS:j<E.Y.length:=by rw[ha.yl.1];exact HA
   have hD:E.Y[j]?=some (E.Y[j]):=kD hS;obtain⟨l,-,h0⟩:=ha.wy j _ hD;have Hk:=H0.o _ (iH hS);generalize E.Y[j]=bu at h0 Hk hD;obtain⟨A5,c5,hY,Ho,he⟩:=h0.legs.shape;have h3:=h0.cells.1.1;rw[hY]at h3;have H4:=ze (fun W(hb:Below wr.heap.size wr W)=>QB E.yb (j*3) A5 l.length c5 wr.heap.size l W (zf hb h3) (he.below hb) rfl hb.size (by have:=h0.ll;omega));have H5:=ze h0.ok;have Hw:l.length<=1000000:=by have:=h0.ll;omega
   clear ha h0 hY Ho he h3 hD;obtain⟨⟨c0,d1,c2⟩,-,g1,-⟩:=hi.o.o3;go_upto_region 5 with(fail)
   go_region_law (first
    |(go_simp;go_at_call 316;(with_reducible refine(H4.o _ fh.drew).mono ?_);rintro rr wX ⟨vl,rfl,ho,hR⟩;obtain⟨A6,c6,rfl,Hq,hf⟩:=ho.shape;have hg:=ze (show Below wr.heap.size wr wX from(Below.refl wr.heap.size wr).drew.trans hR);have HF:=hg.o.size;have H9:=ze (show LRok wX wX.heap.size ⟨A6,l.length,c6,l⟩from⟨hf,rfl,Hw,fun b off e=>(ho.row.lt b (by have e':A6=some ⟨b,off,none⟩:=e;rw[e'];rfl)).2,H5.o⟩);have hB:=ze (fun b off(e:A6=some ⟨b,off,none⟩)=>(show wr.heap.size<=b from(ho.row.lt b (by rw[e];rfl)).1));have hJ:=ze (hv.o.step hg.o);have dX:=ze (hi.o.below hg.o hd);clear ho hR Hq hf;obtain⟨⟨c0b,d1b,c2b⟩,-,g1b,-⟩:=dX.o.o3;have d1a:(wX.alloc (.cells #[.slice A6 l.length c6] 266)).cell? ⟨q3,1,none⟩=some (.slice A j c):=zf ((Below.refl wX.heap.size wX).alloc fi _) d1b;have n15:=World.new_ne wX _ d1b)
    |(refine jn (P:=prog) rfl _ _ 40 rfl underlying40 LgRow.info rfl (by omega) (by omega) rfl (hJ.o.own.alloc _) (⟨A6,l.length,c6,l⟩:LgRow) ⟨_,0,none⟩ 1 rfl rfl (cell_one_new _ _ _) (bC _) (by have:=hm.o;omega) (by simp;omega) ?_;intro v7 w7 k1 k2 k3;obtain⟨A7,n7,k7,rfl,hU,HD⟩:=HB.Own.slice k1;have HC:n7=j+1:=(by have:=hm.o;simp at hU;omega);clear hU;subst HC;have hA:=hg.o.alloc HF (.cells #[.slice A6 l.length c6] 266);have hq:=fun k(hk:(Value.slice A j c).ownBlock=some k)=>(hv.o.own.row.lt k hk);have H3:=ze (LRs.push (hJ.o.step ((Below.refl wX.heap.size wX).alloc fi _)) ((H9.o.below ((Below.refl wX.heap.size wX).alloc fi _)).mono (by simp)) (fun b off e e2=>by have h1:=hB.o b off e;have h2:=(hq b e2).2;omega) k1 k2 k3);have ht:=ze (((hs.o.then_ hA).grown k2 (fun p hp hl=>absurd (hq p hp).1 (by omega))));have hI:=((hi.o.below hA hd).but (But.of_grown (X:=fun p=>(Value.slice A j c).ownBlock=some p) k2 (fun p hp=>hp)) (by have:=hA.size;omega) (fun hx=>by have:=(hq q3 hx).1;omega));have Ha:=ze hI;clear k1 k2 k3 hA hq;obtain⟨⟨c07,d7,c27⟩,-,g7,-⟩:=hI.o3;clear hI))
   all_goals(
    go_wp2_with fail;go_roundw
    case rel=>
     refine⟨j+1,A7,k7,R++[⟨A6,l.length,c6,l⟩],by go_num,by omega,by simp[hm.o],Ha.o.set 1 (.slice A7 (j+1) k7),H3.o.cell (by omega) (fun r' hG b off e=>?_),(fun r' hG b off e=>?_),ht.o.at1 rfl _ _⟩
     ·rcases yp.1 hG with h|h
      ·have:=hz.o r' h b off e;omega
      ·obtain rfl:=vN.1 h;have:=hB.o b off e;omega
     ·rcases yp.1 hG with h|h
      ·exact hz.o r' h b off e
      ·obtain rfl:=vN.1 h;have:=hB.o b off e;omega
    case measure=>simp[intOf];omega)
  ·have j1:¬ ((j:Int)<(E.yn:Int)):=by omega
   have hT:j=E.yn:=by omega
   have H2:=ze hT;clear hT;obtain⟨⟨c0,c1',c2⟩,-⟩:=hi.o.o3;obtain⟨⟨b0,b1,b2⟩,f0,f1,f2⟩:=(H8.o.but hs.o (by have:=hu.o.size;omega) (by omega)).o3;have HE:w.heap.size<wr.heap.size:=by omega
   have h9:w.heap.size<V.heap.size:=by omega
   go_wp2_with fail;refine bodyPost_ret (v:=.agg #[.slice A1 E.trips.length c1,.slice A j c,.int .i64 0]) (by rw[zi rfl];go_simp) rfl ?_;have h8:∀ r∈R,∀b off,r.A=some ⟨b,off,none⟩->b≠w.heap.size:=fun r hr b off e=>by have:=hz.o r hr b off e;omega
   have Hc:=((hv.o.cell (q:=w.heap.size) (o:=0) (u:=.slice A1 E.trips.length c1) h9 h8).cell (q:=w.heap.size) (o:=1) (u:=.slice A j c) h9 h8).cell (q:=w.heap.size) (o:=2) (u:=.int .i64 0) h9 h8;obtain⟨A9,c9,e9,Hs⟩:=Hc.lgs;simp only[We]at e9;obtain⟨rfl,e10,rfl⟩:=e9;have Hj:=(((H7.o.but hs.o (fun k hk e=>by have:=H6.o k hk;omega)).setBelow (p:=⟨w.heap.size,0,none⟩) (by simp) (.slice A1 E.trips.length c1)).setBelow (p:=⟨w.heap.size,1,none⟩) (by simp) (.slice A j c)).setBelow (p:=⟨w.heap.size,2,none⟩) (by simp) (.int .i64 0);exact⟨.slice A1 E.trips.length c1,A,c,R,by rw[e10],Hj.small (by omega),Hs,by rw[hm.o,H2.o],((H1.o.setCell (p:=⟨w.heap.size,0,none⟩) fi _).setCell (p:=⟨w.heap.size,1,none⟩) fi _).setCell (p:=⟨w.heap.size,2,none⟩) fi _⟩
end
end Go.Proofs.YtdeogmbfgkepeaaGreatDoor
