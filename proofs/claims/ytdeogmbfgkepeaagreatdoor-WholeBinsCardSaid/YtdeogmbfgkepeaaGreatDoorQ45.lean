/- Contracts that WholeBins needs. Each tells its conditions. -/
import Derived.Test.YtdeogmbfgkepeaaGreatDoorQ24
import Derived.Test.YtdeogmbfgkepeaaGreatDoorQ44
set_option linter.unusedVariables false
set_option linter.unusedSimpArgs false
set_option maxRecDepth 100000
set_option maxHeartbeats 64000000
namespace Go.Proofs.YtdeogmbfgkepeaaGreatDoor
open Go.Proofs.Tryz
section
open Go.RowKit HB Go.Maps CalP HeapP
theorem LgRow.info:(prog.info? 266).map (fun i=>(i.zero,i.size,i.bytes))=some (some (.slice none 0 0),1,24):=by kernel_rfl
theorem bC(r:LgRow):∀ u∈dl r,u.oneCell'=true:=by simp[Value.oneCell']
structure LRok(w:World)(B:Nat)(r:LgRow):Prop where
 rd:Rd w B 4 r.A r.n (r.l.flatMap QX)
 len:r.l.length=r.n
 n:r.n<=1000000
 lt:∀ b off,r.A=some ⟨b,off,none⟩->b<B
 x:∀ g∈r.l,g.ok
theorem LRok.below{w w':World}{B:Nat}{r:LgRow}(h:LRok w B r)(hb:Below B w w'):LRok w' B r:=⟨h.rd.below hb,h.len,h.n,h.lt,h.x⟩
theorem LRok.mono{w:World}{B B':Nat}{r:LgRow}(h:LRok w B r)(hb:B<=B'):LRok w B' r:=⟨h.rd.mono hb,h.len,h.n,fun b off e=>Nat.lt_of_lt_of_le (h.lt b off e) hb,h.x⟩
theorem KU{w w':World}{B sz n:Nat}{A:Option Addr}{xs:List Value}{X:Nat->Prop}(h:Rd w B sz A n xs)(hB:B<=w.heap.size)(hb:But X w w')(hx:∀ b off,A=some ⟨b,off,none⟩->¬ X b):Rd w' B sz A n xs:=by
 refine⟨h.1,fun hn=>?_⟩;obtain⟨b,off,h1,h2,h3⟩:=h.2 hn;exact⟨b,off,h1,h2,fun j u hu=>(World.cell?_of_block (a:=⟨b,off+j,none⟩) (hb.block b (by omega) (hx b off h1))).trans (h3 j u hu)⟩
structure LRs(w:World)(base:Nat)(v:Value)(R:List LgRow):Prop where
 own:Own w base 266 1 dl v R
 ok:∀ r∈R,LRok w w.heap.size r/\∀ b off,r.A=some ⟨b,off,none⟩->v.ownBlock≠some b
theorem LRs.nil(w:World)(base:Nat):LRs w base (.slice none 0 0) []:=⟨Own.nil _ _ _ _ _,fun r hr=>by cases hr⟩
theorem LRs.step{w w':World}{base:Nat}{v:Value}{R:List LgRow}(h:LRs w base v R)(hb:Below w.heap.size w w'):LRs w' base v R:=
 ⟨h.own.below hb,fun r hr=>⟨((h.ok r hr).1.below hb).mono hb.size,(h.ok r hr).2⟩⟩
theorem LRs.push{w w':World}{base:Nat}{v v':Value}{R:List LgRow}{r:LgRow}(h:LRs w base v R)(hr:LRok w w.heap.size r)(hn:∀ b off,r.A=some ⟨b,off,none⟩->v.ownBlock≠some b)
  (ho:Own w' base 266 1 dl v' (R++[r]))(hg:w.grownBy w' v.ownBlock)(hv:v'.ownBlock=v.ownBlock\/v'.ownBlock=some w.heap.size):LRs w' base v' (R++[r]):=by
 have hb:But (fun k=>v.ownBlock=some k) w w':=(But.refl _ w).grown hg (fun q hq _=>hq);have key:∀ r:LgRow,LRok w w.heap.size r->(∀b off,r.A=some ⟨b,off,none⟩->v.ownBlock≠some b)->LRok w' w'.heap.size r/\∀ b off,r.A=some ⟨b,off,none⟩->v'.ownBlock≠some b:=by
  intro r h1 h2;refine⟨⟨(KU h1.rd fi hb h2).mono hb.size,h1.len,h1.n,fun b off e=>Nat.lt_of_lt_of_le (h1.lt b off e) hb.size,h1.x⟩,fun b off e e2=>?_⟩;rcases hv with hv|hv
  ·exact h2 b off e (hv▸e2)
  ·have:=h1.lt b off e;have h3:w.heap.size=b:=Option.some.inj (hv.symm.trans e2);omega
 refine⟨ho,fun x hx=>?_⟩;rcases List.mem_append.1 hx with hx|hx
 ·exact key x (h.ok x hx).1 (h.ok x hx).2
 ·obtain rfl:=List.mem_singleton.1 hx;exact key _ hr hn
theorem LRs.cell{w:World}{base q o:Nat}{v u:Value}{R:List LgRow}(h:LRs w base v R)(hq:q<base)(hR:∀ r∈R,∀b off,r.A=some ⟨b,off,none⟩->b≠q):LRs (w.setCell ⟨q,o,none⟩ u) base v R:=by
 have hb:But (fun k=>k=q) w (w.setCell ⟨q,o,none⟩ u):=(But.refl (fun k=>k=q) w).at1 rfl o u;refine⟨h.own.but hb (fun k hk e=>by have:=(h.own.row.lt k hk).1;omega),fun r hr=>⟨?_,(h.ok r hr).2⟩⟩;have h1:=(h.ok r hr).1;exact⟨(KU h1.rd fi hb (hR r hr)).mono hb.size,h1.len,h1.n,fun b off e=>Nat.lt_of_lt_of_le (h1.lt b off e) hb.size,h1.x⟩
theorem LRs.lgs{w:World}{base:Nat}{v:Value}{R:List LgRow}(h:LRs w base v R):∃ A c,v=.slice A R.length c/\Lgs w w.heap.size A R.length R:=by
 obtain⟨A,c,h1,-,h3⟩:=h.own.shape;exact⟨A,c,h1,h3,rfl,fun r hr=>⟨(h.ok r hr).1.rd,(h.ok r hr).1.len,by have:=(h.ok r hr).1.n;omega,(h.ok r hr).1.x⟩⟩
def eE(E:Egs)(w:World)(e:Ending)(w':World):Prop:=
 ∃(tv:Value)(lA:Option Addr)(lk:Nat)(R:List LgRow),e=.returned (.agg #[tv,.slice lA R.length lk,.int .i64 0])/\Own w' w.heap.size 87 7 kN tv E.trips/\Lgs w' w'.heap.size lA R.length R/\R.length=E.yn/\Below w.heap.size w w'
theorem GQ(l:List Tr):∀ u∈l.flatMap kN,u.oneCell'=true:=by
 intro u hu;obtain⟨g,-,h⟩:=List.mem_flatMap.1 hu;exact JP g u h
theorem bD(base:Nat)(s:Sc)(sA:Option Addr)(sn sk x:Nat)(E:Egs)(w:World)(H:Eg base s sA sn sk x E w)(hn:E.yn<=16)(hb1:∀ b∈E.Y,b.t<=1000000)(htl:E.trips.length<=1000000):
  Calls prog 315 #[.pointer (some ⟨x,0,none⟩)] w (eE E w):=by
 have HH:=ze H;have HB1:=ze hb1;obtain⟨tA,tc,htv,htk,htr⟩:=H.wd.tr.shape;obtain⟨⟨x0,-,-,-,-⟩,-,-⟩:=H.cells;obtain⟨⟨-,-,-,-,-,-,-,-,-,-,-,-,-,-,-,w15,-⟩,-⟩:=H.wd.bx.o17;rw[htv]at w15;have HTR:=ze htr;have hxw:x<w.heap.size:=H.cs.pl;have hwb:E.wb<w.heap.size:=H.wd.bx.lt (by simp);have hbs:=H.bs;have hyk:=H.yl.2;clear H hb1 htv htr;go_enter func315,ntmps315;go_upto_region 2 with(at_builtin;refine qe rfl _ _ 39 rfl underlying39 Trip.info rfl (by omega) (by omega) rfl (Own.nil _ (w.heap.size+1) 87 7 kN) E.trips w.heap.size tA E.trips.length tc rfl rfl (HTR.o.alloc fi _) (GQ _) (by simp) (by omega) (by simp) ?_;intro v1 w1 hown1 hb1;have hown2:Own w1 (w.heap.size+1) 87 7 kN v1 E.trips:=hown1;obtain⟨A1,c1,rfl,-,-⟩:=hown2.shape;have HO1:=ze hown2;have HBB1:=ze hb1;clear hown1 hb1 hown2);have hz1:=HBB1.o.size;have hz1:w.heap.size+1<=w1.heap.size:=by simpa using hz1
 refine kx (W:=w1.alloc (.cells #[.slice A1 E.trips.length c1,.slice none 0 0,.int .i64 0] 42)) (fun V=>Bx V w1.heap.size [.slice A1 E.trips.length c1,.slice none 0 0,.int .i64 0]/\Bx V w.heap.size [.slice none 0 0,.slice none 0 0,.int .i64 0]/\Own V (w.heap.size+1) 87 7 kN (.slice A1 E.trips.length c1) E.trips/\(∀k,(Value.slice A1 E.trips.length c1).ownBlock=some k->k<w1.heap.size)/\Below w.heap.size w V/\V.heap.size=w1.heap.size+1) ⟨Bx.new w1 [.slice A1 E.trips.length c1,.slice none 0 0,.int .i64 0] 42,(Bx.below (Bx.below (Bx.new w [.slice none 0 0,.slice none 0 0,.int .i64 0] 42) HBB1.o (by omega)) ((Below.refl w1.heap.size w1).alloc fi _) (by omega)),HO1.o.alloc _,fun k hk=>(HO1.o.row.lt k hk).2,(((Below.refl w.heap.size w).alloc fi _).trans (HBB1.o.mono (by omega))).trans ((Below.refl w.heap.size w1).alloc (by omega) _),by simp⟩ ?_;rintro V ⟨hq3,hq2,hO,hOl,hbV,hVz⟩;have HQ2:=ze hq2;have HOT:=ze hO;have HOL:=ze hOl;have HBV:=ze hbV;have HQ30:=ze hq3;have hEV:=HH.o.below hbV;obtain⟨⟨-,-,-,x5,-⟩,-,-⟩:=hEV.cells;have HEV:=ze hEV;clear hq3 hq2 hO hOl hbV x0 w15 HO1 HBB1 HTR hEV;generalize w1.heap.size=q3 at*;go_wp2_with fail
 go_loopw [19] (fun k wr=>∃(j:Nat)(A:Option Addr)(c:Nat)(R:List LgRow),k=.int .i64 j/\j<=E.yn/\R.length=j/\Bx wr q3 [.slice A1 E.trips.length c1,.slice A j c,.int .i64 0]/\LRs wr V.heap.size (.slice A j c) R/\(∀r∈R,∀b off,r.A=some ⟨b,off,none⟩->V.heap.size<=b)/\But (fun k=>k=q3) V wr) (fun k _=>E.yn-(intOf k).toNat)
 case atStart=>exact⟨0,none,0,[],rfl,Nat.zero_le _,rfl,HQ30.o,LRs.nil V V.heap.size,(fun r hr=>by cases hr),But.refl _ V⟩
 case round=>
  obtain⟨j,A,c,R,rfl,hj,hRl,hq3,hLR,hRb,hbut⟩:=hrel;have HQ3:=ze hq3;have HLR:=ze hLR;have HRL:=ze hRl;have HRB:=ze hRb;have HBT:=ze hbut;have hzr:=hbut.size;have hbw:Below w.heap.size w wr:=HBV.o.trans (hbut.below (fun k e=>by omega) (by have:=HBV.o.size;omega));have HBW:=ze hbw;have hEr:=HH.o.below hbw;have HER:=ze hEr;have j0:(0:Int)<=(j:Int):=by omega
  have hq3r:q3<wr.heap.size:=by omega
  clear hq3 hLR hRl hRb hbut hbw x5;by_cases hlt:j<E.yn
  ·have j1:(j:Int)<(E.yn:Int):=by omega
   obtain⟨⟨-,-,-,x5,-⟩,-,-⟩:=hEr.cells;have hjY:j<E.Y.length:=by rw[hEr.yl.1];exact hlt
   have hYj:E.Y[j]?=some (E.Y[j]):=List.getElem?_eq_getElem hjY;obtain⟨l,-,hway⟩:=hEr.wy j _ hYj;have hbt:=HB1.o _ (List.getElem_mem hjY);generalize E.Y[j]=bu at hway hbt hYj;obtain⟨A5,c5,hv5,hk5,hrd5⟩:=hway.legs.shape;have hcell:=hway.cells.1.1;rw[hv5]at hcell;have HLG:=ze (fun W(hb:Below wr.heap.size wr W)=>QB E.yb (j*3) A5 l.length c5 wr.heap.size l W (zf hb hcell) (hrd5.below hb) rfl hb.size (by have:=hway.ll;omega));have HOK:=ze hway.ok;have hll:l.length<=1000000:=by have:=hway.ll;omega
   clear hEr hway hv5 hk5 hrd5 hcell hYj;obtain⟨⟨c0,d1,c2⟩,-,g1,-⟩:=HQ3.o.o3;go_upto_region 5 with(fail)
   go_region_law (first
    |(go_simp;go_at_call 316;(with_reducible refine(HLG.o _ fh.drew).mono ?_);rintro rr wX ⟨vl,rfl,hO5,hbX⟩;obtain⟨A6,c6,rfl,hk6,hrd6⟩:=hO5.shape;have HBN:=ze (show Below wr.heap.size wr wX from(Below.refl wr.heap.size wr).drew.trans hbX);have hzN:=HBN.o.size;have HRW:=ze (show LRok wX wX.heap.size ⟨A6,l.length,c6,l⟩from⟨hrd6,rfl,hll,fun b off e=>(hO5.row.lt b (by have e':A6=some ⟨b,off,none⟩:=e;rw[e'];rfl)).2,HOK.o⟩);have HRN:=ze (fun b off(e:A6=some ⟨b,off,none⟩)=>(show wr.heap.size<=b from(hO5.row.lt b (by rw[e];rfl)).1));have HLX:=ze (HLR.o.step HBN.o);have dX:=ze (HQ3.o.below HBN.o hq3r);clear hO5 hbX hk6 hrd6;obtain⟨⟨c0b,d1b,c2b⟩,-,g1b,-⟩:=dX.o.o3;have d1a:(wX.alloc (.cells #[.slice A6 l.length c6] 266)).cell? ⟨q3,1,none⟩=some (.slice A j c):=zf ((Below.refl wX.heap.size wX).alloc fi _) d1b;have n15:=World.new_ne wX _ d1b)
    |(refine jn (P:=prog) rfl _ _ 40 rfl underlying40 LgRow.info rfl (by omega) (by omega) rfl (HLX.o.own.alloc _) (⟨A6,l.length,c6,l⟩:LgRow) ⟨_,0,none⟩ 1 rfl rfl (cell_one_new _ _ _) (bC _) (by have:=HRL.o;omega) (by simp;omega) ?_;intro v7 w7 k1 k2 k3;obtain⟨A7,n7,k7,rfl,hn7,hnk7⟩:=HB.Own.slice k1;have hn8:n7=j+1:=(by have:=HRL.o;simp at hn7;omega);clear hn7;subst hn8;have hA:=HBN.o.alloc hzN (.cells #[.slice A6 l.length c6] 266);have hvb:=fun k(hk:(Value.slice A j c).ownBlock=some k)=>(HLR.o.own.row.lt k hk);have HL7:=ze (LRs.push (HLX.o.step ((Below.refl wX.heap.size wX).alloc fi _)) ((HRW.o.below ((Below.refl wX.heap.size wX).alloc fi _)).mono (by simp)) (fun b off e e2=>by have h1:=HRN.o b off e;have h2:=(hvb b e2).2;omega) k1 k2 k3);have HBT7:=ze (((HBT.o.then_ hA).grown k2 (fun p hp hl=>absurd (hvb p hp).1 (by omega))));have hx7:=((HQ3.o.below hA hq3r).but (But.of_grown (X:=fun p=>(Value.slice A j c).ownBlock=some p) k2 (fun p hp=>hp)) (by have:=hA.size;omega) (fun hx=>by have:=(hvb q3 hx).1;omega));have HX7:=ze hx7;clear k1 k2 k3 hA hvb;obtain⟨⟨c07,d7,c27⟩,-,g7,-⟩:=hx7.o3;clear hx7))
   all_goals(
    go_wp2_with fail;go_roundw
    case rel=>
     refine⟨j+1,A7,k7,R++[⟨A6,l.length,c6,l⟩],by go_num,by omega,by simp[HRL.o],HX7.o.set 1 (.slice A7 (j+1) k7),HL7.o.cell (by omega) (fun r' hr' b off e=>?_),(fun r' hr' b off e=>?_),HBT7.o.at1 rfl _ _⟩
     ·rcases List.mem_append.1 hr' with h|h
      ·have:=HRB.o r' h b off e;omega
      ·obtain rfl:=List.mem_singleton.1 h;have:=HRN.o b off e;omega
     ·rcases List.mem_append.1 hr' with h|h
      ·exact HRB.o r' h b off e
      ·obtain rfl:=List.mem_singleton.1 h;have:=HRN.o b off e;omega
    case measure=>simp[intOf];omega)
  ·have j1:¬ ((j:Int)<(E.yn:Int)):=by omega
   have hjn:j=E.yn:=by omega
   have HJN:=ze hjn;clear hjn;obtain⟨⟨c0,c1',c2⟩,-⟩:=HQ3.o.o3;obtain⟨⟨b0,b1,b2⟩,f0,f1,f2⟩:=(HQ2.o.but HBT.o (by have:=HBV.o.size;omega) (by omega)).o3;have hq2r:w.heap.size<wr.heap.size:=by omega
   have hVz2:w.heap.size<V.heap.size:=by omega
   go_wp2_with fail;refine bodyPost_ret (v:=.agg #[.slice A1 E.trips.length c1,.slice A j c,.int .i64 0]) (by rw[zi rfl];go_simp) rfl ?_;have hRne:∀ r∈R,∀b off,r.A=some ⟨b,off,none⟩->b≠w.heap.size:=fun r hr b off e=>by have:=HRB.o r hr b off e;omega
   have hL3:=((HLR.o.cell (q:=w.heap.size) (o:=0) (u:=.slice A1 E.trips.length c1) hVz2 hRne).cell (q:=w.heap.size) (o:=1) (u:=.slice A j c) hVz2 hRne).cell (q:=w.heap.size) (o:=2) (u:=.int .i64 0) hVz2 hRne;obtain⟨A9,c9,e9,hlg⟩:=hL3.lgs;simp only[Value.slice.injEq]at e9;obtain⟨rfl,e10,rfl⟩:=e9;have hO9:=(((HOT.o.but HBT.o (fun k hk e=>by have:=HOL.o k hk;omega)).setBelow (p:=⟨w.heap.size,0,none⟩) (by simp) (.slice A1 E.trips.length c1)).setBelow (p:=⟨w.heap.size,1,none⟩) (by simp) (.slice A j c)).setBelow (p:=⟨w.heap.size,2,none⟩) (by simp) (.int .i64 0);exact⟨.slice A1 E.trips.length c1,A,c,R,by rw[e10],hO9.small (by omega),hlg,by rw[HRL.o,HJN.o],((HBW.o.setCell (p:=⟨w.heap.size,0,none⟩) fi _).setCell (p:=⟨w.heap.size,1,none⟩) fi _).setCell (p:=⟨w.heap.size,2,none⟩) fi _⟩
end
end Go.Proofs.YtdeogmbfgkepeaaGreatDoor
