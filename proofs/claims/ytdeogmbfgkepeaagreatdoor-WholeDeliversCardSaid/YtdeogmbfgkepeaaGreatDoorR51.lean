/- Contracts for WholeDelivers. -/
import Derived.Test.YtdeogmbfgkepeaaGreatDoorR40
import Derived.Test.YtdeogmbfgkepeaaGreatDoorR47
import Derived.Test.YtdeogmbfgkepeaaGreatDoorR49
import Derived.Test.YtdeogmbfgkepeaaGreatDoorR50
set_option linter.unusedVariables false
set_option linter.unusedSimpArgs false
set_option maxRecDepth 100000
set_option maxHeartbeats 64000000
namespace Go.Proofs.YtdeogmbfgkepeaaGreatDoor
open Go.Proofs.Tryz
open Go.Value renaming int->O
open Go.IntKind renaming i64->J
section
open Go.RowKit HB Go.Maps CalP HeapP DigP HistP ArrP LexP
abbrev ZM(t:iY)(tA:iX)(tn tk:Nat)(lA:iX)(ln lk:Nat)(u:Int):iZ:=[O J 0,O J 0,O J 0,O J 0,.string t,.slice tA tn tk,.slice lA ln lk,O J u]
abbrev UT(t:iY)(tA:iX)(tn tk:Nat)(lA:iX)(ln lk:Nat)(u:Int):Value:=.agg #[O J 0,O J 0,O J 0,O J 0,.string t,.slice tA tn tk,.slice lA ln lk,O J u]
abbrev qZ:iZ:=[O J 0,O J 0,O J 0,O J 0,.string ⟨#[]⟩,.slice none 0 0,.slice none 0 0,O J 0]
def YD(s:Sc)(m:Nat)(l:List Tr)(t:iY):Prop:=∃(x y:iY)(ws:l8),t=⟨(Lib.join [(qU s).data.toList,x.data.toList,y.data.toList,zD ws (zZ m s.width (zo m s.width m (waits l)) (zo m s.width m (zj l)) m)] [10]).toArray⟩/\(Lib.join [(qU s).data.toList,x.data.toList,y.data.toList,zD ws (zZ m s.width (zo m s.width m (waits l)) (zo m s.width m (zj l)) m)] [10]).length<=1000000000
structure TripsP(n:Nat)(l:List Tr):Prop where
 n:l.length<=n
 ok:∀ t∈l,t.ok
 wt:∀ x∈waits l,0<=x/\x<=10000
 tr:∀ x∈zj l,0<=x/\x<=10000
def cg(s:Sc)(m a n:Nat)(w:l6)(e:Ending)(w':l6):Prop:=
 ∃(t:iY)(tA:iX)(tk:Nat)(lA:iX)(ln lk:Nat)(l:List Tr),e=.returned (UT t tA l.length tk lA ln lk a)/\YD s m l t/\Trs w' w'.heap.size tA l.length l/\(∀b off,tA=some ⟨b,off,none⟩->w.heap.size<=b)/\TripsP n l/\(ln:Int)=s.cars/\(((qw (s.segs.map qF) s.hor:Nat):Int)+2*(n:Int)*qt s<=s.hor->l.length=n/\∀ t∈l,0<=t.al)/\Below w.heap.size w w'
theorem xw(w:l6)(q:Nat)(u0 u1 u2 u3 u4 u5 u6 u7:Value):But (fun k=>k=q) w ((((((((w.setCell ⟨q,0,none⟩ u0).setCell ⟨q,1,none⟩ u1).setCell ⟨q,2,none⟩ u2).setCell ⟨q,3,none⟩ u3).setCell ⟨q,4,none⟩ u4).setCell ⟨q,5,none⟩ u5).setCell ⟨q,6,none⟩ u6).setCell ⟨q,7,none⟩ u7):=
 ((((((((But.refl (fun k=>k=q) w).set (a:=⟨q,0,none⟩) (.inl rfl) _).set (a:=⟨q,1,none⟩) (.inl rfl) _).set (a:=⟨q,2,none⟩) (.inl rfl) _).set (a:=⟨q,3,none⟩) (.inl rfl) _).set (a:=⟨q,4,none⟩) (.inl rfl) _).set (a:=⟨q,5,none⟩) (.inl rfl) _).set (a:=⟨q,6,none⟩) (.inl rfl) _).set (a:=⟨q,7,none⟩) (.inl rfl) _
theorem Bs.set1{w W:l6}{L:List (Nat×iZ)}{q:Nat}{l:iZ}(h:Bs w W ((q,l)::L))(i:Nat)(u:Value)(hne:∀ p∈L,p.1≠q):Bs w (W.setCell ⟨q,i,none⟩ u) ((q,l.set i u)::L):=by
 refine⟨h.b.setCell (p:=⟨q,i,none⟩) (h.l (q,l) (by simp)).1 u,fun p hp=>?_⟩;rcases qx.1 hp with rfl|hp
 ·have:=h.l (q,l) (by simp);exact⟨this.1,by simpa using this.2.1,this.2.2.set i u⟩
 ·have:=h.l p (by simp[hp]);exact⟨this.1,by simpa using this.2.1,this.2.2.setOther (fun e=>hne p hp e.symm) _⟩
theorem Hh(s:Sc)(hs:s.ok)(hf:s.fl<=20)(hh:s.hor<=5000)(wA:iX)(wn wc:Nat)(ws:l8)(w:l6)(hw:HB.Rd w w.heap.size 1 wA wn (ws.map (Value.int .u32))/\ws.length=wn)(hwn:wn<=600)(hwx:∀ x∈ws,0<=x/\x<=4294967295)
  (ht:Tab w)(hD:5<w.heap.size)(hrp:RepOK w)(m:Nat)(hm:s.bins=(m:Int))(a n:Nat)(hr:Run (s.segs.map qF) ws (qw (s.segs.map qF) s.hor) 0 0 0 (some (a,n))):
  Calls prog 58 #[.string (qU s),.slice wA wn wc,.bool true] w (cg s m a n w):=by
 have Hq:=ze (fun W=>G3 s hs W);have Hj:=ze (fun(sA:iX)(sn sk:Nat) W(hb:Below w.heap.size w W)(hg:Sgs W W.heap.size sA sn s.segs)=>Vg s hs hf (by omega) sA sn sk wA wn wc ws W hg ⟨(hw.1.below hb).mono hb.size,hw.2⟩ (by omega) hwx);have HT:=ze ht;have ac:=ze hrp;have Hk:=ze hm;clear hw ht hrp hm
 go_in
 go_upto_region 2 with(go_at_call 78;(with_reducible refine(Hq.o _).mono ?_);rintro r w1 ⟨sA,sn,sk,rfl,b9,hg,HM⟩;have HG:=ze hg;have hU:=ze HM;clear hg HM);have hS:=ze ((((Bs.one w qZ 44).step hU.o).new rfl (s.ls sA sn sk) 25).new (q:=w1.heap.size+1) (by simp) [O J 0,O J 0,O J 0] 38);have H5:=ze ((HG.o.below (show Below w1.heap.size w1 ((w1.alloc (.cells (s.ls sA sn sk).toArray 25)).alloc (.cells [O J 0,O J 0,O J 0].toArray 38))from by go_grown)).mono (B':=((w1.alloc (.cells (s.ls sA sn sk).toArray 25)).alloc (.cells [O J 0,O J 0,O J 0].toArray 38)).heap.size) (by simp;omega));have bc:w.heap.size<w1.heap.size:=by have:=hU.o.size;simp at this;omega
 refine zq (w:=w) (fun V=>Bs w V [(w1.heap.size+1,[O J 0,O J 0,O J 0]),(w1.heap.size,s.ls sA sn sk),(w.heap.size,qZ)]/\Sgs V V.heap.size sA sn s.segs) ⟨hS.o,H5.o⟩ hS.o.b ?_;clear HG hU hS H5 Hq;generalize w1.heap.size=k1 at*;rintro V ⟨h7,hg⟩ h9;have hj:=ze h7;have HG:=ze hg;obtain⟨⟨a0,a1,a2,a3,a4,a5,a6,a7,a8,a9,a10,a11,a12⟩,-⟩:=(h7.cell (q:=k1) (l:=s.ls sA sn sk) (by simp)).o13;obtain⟨⟨b0,b1,b2⟩,-⟩:=(h7.cell (q:=k1+1) (l:=[O J 0,O J 0,O J 0]) (by simp)).o3;have H9:=ze (Hj.o sA sn sk V h9 hg);have hF:=ze hr;clear h7 hg h9 Hj hr;go_upto_region 5 with(fail);clear a0 a1 a2 a3 a4 a5 a6 a7 a8 a9 a10 a11 a12 b0 b1 b2;refine H9.o.mono ?_;clear H9;rintro r w3 ⟨hP,rr,hN,am⟩;obtain rfl:=hF.o.one hN;rcases am with⟨h0,-⟩|⟨pA,pc,a',P,h0,rfl,hM,b3,H1,b5,b6⟩
 ·cases h0
 ·have af:a=a'/\n=P.length:=by injection h0 with h0;injection h0 with h1 h2;exact⟨h1,h2⟩
  obtain⟨rfl,rfl⟩:=af;have hC:=ze (hj.o.step hP);have H6:=ze ((HG.o.below hP).mono hP.size);have Hs:=ze hM;have HZ:=ze (H1.pas hs (by unfold qw;omega));have ab:=ze (show PV s ((qw (s.segs.map qF) s.hor:Nat):Int) P from fun p hp=>by have h:=H1.ok p hp;exact⟨h.2.2.1,h.2.2.2.1,h.2.2.2.2.1,h.2.2.2.2.2.1,h.2.2.2.2.2.2,h.2.1⟩);clear hN h0 hM H1 hj HG hP hF;go_upto_region 7 with(fail);have hV:=ze (hC.o.new (q:=w3.heap.size) rfl [.slice wA wn wc,O J a] 32);refine zq (w:=w) (fun V=>Bs w V [(w3.heap.size,[.slice wA wn wc,O J a]),(k1+1,[O J 0,O J 0,O J 0]),(k1,s.ls sA sn sk),(w.heap.size,qZ)]/\Sgs V V.heap.size sA sn s.segs/\HB.Rd V V.heap.size 4 pA P.length (P.flatMap Wl)) ⟨hV.o,(H6.o.below (by go_grown)).mono (by simp),(Hs.o.below (by go_grown)).mono (by simp)⟩ hV.o.b ?_;clear hC H6 Hs hV;generalize w3.heap.size=k2 at*;rintro V4 ⟨h7,hg,hM⟩ h9;have hj:=ze h7;have HG:=ze hg;have HY:=ze h9;obtain⟨⟨a0,a1,a2,a3,a4,a5,a6,a7,a8,a9,a10,a11,a12⟩,-⟩:=(h7.cell (q:=k1) (l:=s.ls sA sn sk) (by simp)).o13;have HC:=ze (QA s hs sA sn sk pA P.length pc P V4 hM ⟨rfl,b3⟩ HZ.o hh (by omega) (HT.o.below h9 hD) (kK hD h9.size));clear h7 hg h9 hM;go_upto_region 8 with(first
   |(go_at_call 79;(with_reducible refine HC.o.mono ?_);rintro r w5 ⟨B,x,E,rfl,hE,hI,hT,hL,hO,HN,HP⟩;have H4:=ze (fun h=>HP _ ab.o h);clear HP;have HE:=ze hE;have HI:=ze hI;have HF:=ze hT;have Hc:=ze hL;have H0:=ze hO;have hB:=ze HN;clear hE hI hT hL hO HN))
  have HU:E.yn<=16:=by have h1:=HE.o.yl.1;have h2:=HI.o.yl;have h3:=HI.o.n;omega
  have HW:(E.yn:Int)=s.cars:=by have h1:=HE.o.yl.1;have h2:=HI.o.yl;have h3:=Hc.o;omega
  have hR:E.trips.length<=P.length:=by have:=H0.o;omega
  have HO:∀ b∈E.Y,b.t<=1000000:=fun b hb=>by
   obtain⟨i,hi⟩:=Z5 hb;have b7:=(qd.1 hi).1;have HL:i<E.at_.length:=by have h1:=HI.o.inv.len;have h2:=HI.o.yl;omega
   have h3:=HI.o.tk i b _ hi (kD HL);have h4:=HI.o.mx _ (iH HL);omega
  have HX:=ze (show((qw (s.segs.map qF) s.hor:Nat):Int)+2*(P.length:Int)*qt s<=s.hor->E.trips.length=P.length/\∀ t∈E.trips,0<=t.al from fun h=>by
   obtain⟨h1,h2⟩:=H4.o h;have h3:=H0.o;rw[h1]at h3;exact⟨by simpa using h3,h2⟩)
  clear H4;have hn:=ze (show TripsP P.length E.trips from by
   have hv:=HI.o.inv.inv;rw[HF.o]at hv;have hd:=hv.done;refine⟨hR,hv.ok (by omega),fun x hx=>?_,fun x hx=>?_⟩
   ·obtain⟨t,ht,rfl⟩:=Vl.1 hx;have h5:=iO.1 ht;have h6:=hd t h5.1 h5.2
    show 0<=t.bo-t.ar/\t.bo-t.ar<=10000
    omega
   ·obtain⟨t,ht,rfl⟩:=Vl.1 hx;have h5:=iO.1 ht;have h6:=hd t h5.1 h5.2
    show 0<=t.al-t.bo/\t.al-t.bo<=10000
    omega)
  have hu:=ze (bD B s sA sn sk x E w5 HE.o HU HO (by omega));clear HE HI HF Hc H0 HC HO;refine hu.o.mono ?_;clear hu;rintro r w6 ⟨tv,lA,lk,R,rfl,ho,h8,HH,hQ⟩;have HQ:=ho.row.lt;obtain⟨tA,tk,rfl,bb,hO⟩:=Own.trs ho;have Ho:=ze (show∀b off,tA=some ⟨b,off,none⟩->w.heap.size<b from fun b off e=>by subst e;have h1:=(HQ b rfl).1;have h2:=hj.o.lt (q:=w.heap.size) (l:=qZ) (by simp);have h3:=hB.o.size;omega);clear HQ;generalize E.trips=l at*;have HJ:(R.length:Int)=s.cars:=by rw[HH];exact HW
  have hl:=ze ((hj.o.step hB.o).step hQ);have H7:=ze ((((HG.o.below hB.o).mono hB.o.size).below hQ).mono hQ.size);have hG:=ze hO;have hu:=ze h8;have Hw:=ze HJ;clear ho h8 hO HH HW HU HJ hj HG hB hQ;go_upto_region 8 with(fail);have hW:=ze (hl.o.new (q:=w6.heap.size) rfl [.slice tA l.length tk,.slice lA R.length lk,O J 0] 42);have aA:k2<w6.heap.size:=hl.o.lt (q:=k2) (l:=[.slice wA wn wc,O J a]) (by simp);have ao:k1+1<w6.heap.size:=hl.o.lt (q:=k1+1) (l:=[O J 0,O J 0,O J 0]) (by simp);have ha:Below w6.heap.size w6 (w6.alloc (.cells #[.slice tA l.length tk,.slice lA R.length lk,O J 0] 42)):=by go_grown
  refine zq (w:=w) (fun V=>Bs w V [(w6.heap.size,[.slice tA l.length tk,.slice lA R.length lk,O J 0]),(k2,[.slice wA wn wc,O J a]),(k1+1,[O J 0,O J 0,O J 0]),(k1,s.ls sA sn sk),(w.heap.size,qZ)]/\Sgs V w6.heap.size sA sn s.segs/\Trs V w6.heap.size tA l.length l/\Lgs V w6.heap.size lA R.length R) ⟨hW.o,H7.o.below ha,hG.o.below ha,⟨hu.o.rows.below ha,hu.o.len,fun r hr=>⟨((hu.o.at_ r hr).1.below ha),(hu.o.at_ r hr).2⟩⟩⟩ hW.o.b ?_;clear hl H7 hG hu hW ha;generalize w6.heap.size=k6 at*;rintro V7 ⟨h7,hg,hA,h8⟩ h9;have hZ:=ze h7;have hc:Below k6 V7 (V7.setCell ⟨k6,2,none⟩ (O J a)):=(Below.refl k6 V7).setCell (p:=⟨k6,2,none⟩) fi _;have hX:=ze (h7.set1 2 (O J a) (fun p hp=>by simp only[qx,Zl,or_false]at hp;rcases hp with rfl|rfl|rfl|rfl<;>simp only<;>omega));have H8:=ze (hg.below hc);have HD:=ze (hA.below hc);have Ha:=ze (show Lgs (V7.setCell ⟨k6,2,none⟩ (O J a)) k6 lA R.length R from⟨h8.rows.below hc,h8.len,fun r hr=>⟨((h8.at_ r hr).1.below hc),(h8.at_ r hr).2⟩⟩);obtain⟨⟨b0,b1,b2⟩,-,-,f2⟩:=(h7.cell (q:=k6) (l:=[.slice tA l.length tk,.slice lA R.length lk,O J 0]) (by simp)).o3;obtain⟨⟨d0,d1⟩,-⟩:=(h7.cell (q:=k2) (l:=[.slice wA wn wc,O J a]) (by simp)).o2;clear h7 hg hA h8 h9 hc;go_upto_region 9 with(fail);refine zq (w:=w) (fun V=>Bs w V [(k6,[.slice tA l.length tk,.slice lA R.length lk,O J a]),(k2,[.slice wA wn wc,O J a]),(k1+1,[O J 0,O J 0,O J 0]),(k1,s.ls sA sn sk),(w.heap.size,qZ)]/\Sgs V k6 sA sn s.segs/\Trs V k6 tA l.length l/\Lgs V k6 lA R.length R) ⟨hX.o,H8.o,HD.o,Ha.o⟩ hX.o.b ?_;clear hZ hX H8 HD Ha b0 b1 b2 d0 d1 f2;rintro V8 ⟨h7,hg,hA,h8⟩ h9;have hj:=ze h7;have hG:=ze hA;have HY:=ze h9;obtain⟨⟨a0,a1,a2,a3,a4,a5,a6,a7,a8,a9,a10,a11,a12⟩,-⟩:=(h7.cell (q:=k1) (l:=s.ls sA sn sk) (by simp)).o13;obtain⟨⟨b0,b1,b2⟩,-⟩:=(h7.cell (q:=k6) (l:=[.slice tA l.length tk,.slice lA R.length lk,O J a]) (by simp)).o3;have hy:k6<V8.heap.size:=h7.lt (q:=k6) (l:=[.slice tA l.length tk,.slice lA R.length lk,O J a]) (by simp);have b8:l.length<=600:=by have:=hn.o.n;omega
  have hwl:(waits l).length<=1000:=by unfold waits;rw[KS];have:=ag dn l;omega
  have hR:(zj l).length<=1000:=by unfold zj;rw[KS];have:=ag dn l;omega
  have ai:=hs.bins;have b4:=hs.width;have ak:=hs.cars;have HA:=ze ((Gq s hs sA sn sk tA l.length tk l lA R.length lk R a V8 (hg.mono (Vq hy)) (hA.mono (Vq hy)) (by omega) hn.o.ok ⟨h8.rows.mono (Vq hy),h8.len,fun r hr=>⟨((h8.at_ r hr).1.mono (Vq hy)),(h8.at_ r hr).2⟩⟩ (by have:=Hw.o;omega) ⟨by omega,by omega⟩ hwl (fun x hx=>by have:=hn.o.wt x hx;omega) hR (fun x hx=>by have:=hn.o.tr x hx;omega)
   (fun x hx=>zQ (by have:=hn.o.wt x hx;omega) (by have:=hn.o.wt x hx;omega)) (fun x hx=>zQ (by have:=hn.o.tr x hx;omega) (by have:=hn.o.tr x hx;omega)) (ac.o.below h9) (ba V8) (by have:=Ku s hs;show(zV (qT s)).toArray.size<=_;rw[Wf];omega) m Hk.o (by unfold eZ;rw[decide_eq_true_eq];have:=Hk.o;omega)).mono (R':=fun e w'=>(∃t,e=.returned (.tuple #[.string t,O J 0])/\YD s m l t)/\Below V8.heap.size V8 w') (fun e w'⟨⟨x,y,w9,he,hl9⟩,hb⟩=>⟨⟨_,he,x,y,w9,rfl,hl9⟩,hb⟩))
  clear h7 hg hA h8 h9 hwl hR;go_upto_region 10 with(go_at_call 80;(with_reducible refine HA.o.mono ?_);rintro r w9 ⟨⟨t,rfl,HR⟩,hb9⟩;have ad:=ze HR;have hY:=ze hb9;clear HR hb9);have hq:=hj.o.step hY.o;have hJ:=ze ((hG.o.below (hY.o.mono (Vq hy))).mono (vD (Vq hy) hY.o.size));have H3:=ze hq.b;obtain⟨⟨c0,c1,c2⟩,-⟩:=(hq.cell (q:=k6) (l:=[.slice tA l.length tk,.slice lA R.length lk,O J a]) (by simp)).o3;have hz:=hq.cell (q:=w.heap.size) (l:=qZ) (by simp);have z0:=(hz 0 _ rfl).1;have z1:=(hz 1 _ rfl).1;have z2:=(hz 2 _ rfl).1;have z3:=(hz 3 _ rfl).1;have z4:=(hz 4 _ rfl).1;have z5:=(hz 5 _ rfl).1;have z6:=(hz 6 _ rfl).1;have z7:=(hz 7 _ rfl).1;have y0:=(hz 0 _ rfl).2;have y1:=(hz 1 _ rfl).2;have y2:=(hz 2 _ rfl).2;have y3:=(hz 3 _ rfl).2;have y4:=(hz 4 _ rfl).2;have y5:=(hz 5 _ rfl).2;have y6:=(hz 6 _ rfl).2;have y7:=(hz 7 _ rfl).2;clear hq hz hj hG b0 b1 b2 a0 a1 a2 a3 a4 a5 a6 a7 a8 a9 a10 a11 a12 HA;go_wp2_with fail;refine bodyPost_ret (v:=UT t tA l.length tk lA R.length lk a) (by rw[zi rfl];go_simp) rfl ?_;have H2:=xw w9 w.heap.size (O J 0) (O J 0) (O J 0) (O J 0) (.string t) (.slice tA l.length tk) (.slice lA R.length lk) (O J a);refine⟨t,tA,tk,lA,R.length,lk,l,rfl,ad.o,⟨(xu hJ.o.1 fi H2 (fun b off e e2=>by have:=Ho.o b off e;have e3:b=w.heap.size:=e2;omega)).mono H2.size,hJ.o.2⟩,fun b off e=>Vq (Ho.o b off e),hn.o,Hw.o,HX.o,?_⟩;exact H3.o.trans (H2.below (fun k hk=>by have e:k=w.heap.size:=hk;omega) H3.o.size)
theorem Hi(s:Sc)(hs:s.ok)(hf:s.fl<=20)(hh:s.hor<=5000)(wA:iX)(wn wc:Nat)(ws:l8)(w:l6)(hw:HB.Rd w w.heap.size 1 wA wn (ws.map (Value.int .u32))/\ws.length=wn)(hwn:wn<=600)(hwx:∀ x∈ws,0<=x/\x<=4294967295)
  (ht:Tab w)(hD:5<w.heap.size)(hrp:RepOK w)(m:Nat)(hm:s.bins=(m:Int))(a n:Nat)(hr:Run (s.segs.map qF) ws (qw (s.segs.map qF) s.hor) 0 0 0 (some (a,n))):
  Calls prog 30 #[.string (qU s),.slice wA wn wc] w (cg s m a n w):=by
 have h4:=ze (fun W(hb:Below w.heap.size w W)=>Hh s hs hf hh wA wn wc ws W ⟨(hw.1.below hb).mono hb.size,hw.2⟩ hwn hwx (ht.below hb hD) (kK hD hb.size) (hrp.below hb) m hm a n hr);clear hw ht hrp hr hm;have h1:Below w.heap.size w (w.alloc (.cells #[O J 0,O J 0,O J 0,O J 0,.string ⟨#[]⟩,.slice none 0 0,.slice none 0 0,O J 0] 44)):=by go_grown
 have HP:=ze (h4.o _ h1);clear h4 h1
 go_in
 go_upto_region 1 with(fail);have h8:(w.alloc (.cells #[O J 0,O J 0,O J 0,O J 0,.string ⟨#[]⟩,.slice none 0 0,.slice none 0 0,O J 0] 44)).heap.size=w.heap.size+1:=by simp
 have HZ:=ze (Bx.new w qZ 44);have h1:Below w.heap.size w (w.alloc (.cells #[O J 0,O J 0,O J 0,O J 0,.string ⟨#[]⟩,.slice none 0 0,.slice none 0 0,O J 0] 44)):=by go_grown
 have hc:=ze h1;have HS0:=ze h8;clear h8 h1;go_wp2_with(go_at_call 58;(with_reducible refine HP.o.mono ?_);rintro r w1 ⟨t,tA,tk,lA,ln,lk,l,rfl,hx,ht,h7,h9,h6,h5,h0⟩;have ha:=ze h5;clear h5;have HX:=ze hx;have HT:=ze ht;have hg:=ze h7;have hi:=ze h9;have hd:=ze h0;have he:=ze h6;have hz:=HZ.o.below h0 (by simp);have z0:=(hz 0 _ rfl).1;have z1:=(hz 1 _ rfl).1;have z2:=(hz 2 _ rfl).1;have z3:=(hz 3 _ rfl).1;have z4:=(hz 4 _ rfl).1;have z5:=(hz 5 _ rfl).1;have z6:=(hz 6 _ rfl).1;have z7:=(hz 7 _ rfl).1;have y0:=(hz 0 _ rfl).2;have y1:=(hz 1 _ rfl).2;have y2:=(hz 2 _ rfl).2;have y3:=(hz 3 _ rfl).2;have y4:=(hz 4 _ rfl).2;have y5:=(hz 5 _ rfl).2;have y6:=(hz 6 _ rfl).2;have y7:=(hz 7 _ rfl).2;clear hx ht h7 h9 h6 h0 hz);refine bodyPost_ret (v:=UT t tA l.length tk lA ln lk a) (by rw[zi rfl];go_simp) rfl ?_;have h3:=xw w1 w.heap.size (O J 0) (O J 0) (O J 0) (O J 0) (.string t) (.slice tA l.length tk) (.slice lA ln lk) (O J a);have h2:∀ b off,tA=some ⟨b,off,none⟩->w.heap.size<b:=fun b off e=>by have:=hg.o b off e;rw[HS0.o]at this;omega
 refine⟨t,tA,tk,lA,ln,lk,l,rfl,HX.o,⟨(xu HT.o.1 fi h3 (fun b off e e2=>by have:=h2 b off e;have e3:b=w.heap.size:=e2;omega)).mono h3.size,HT.o.2⟩,fun b off e=>Vq (h2 b off e),hi.o,he.o,ha.o,?_⟩;have h0:=hc.o.trans (hd.o.mono (by rw[HS0.o];omega));exact h0.trans (h3.below (fun k hk=>by have e:k=w.heap.size:=hk;omega) h0.size)
end
section
open Go.RowKit HB Go.Maps CalP HeapP DigP HistP ArrP
def XQ(s:Sc):Prop:=s.ok/\s.fl<=20/\s.hor<=300
def Hn(P:Prop)(w:l6)(e:Ending)(w':l6):Prop:=∃ b:Bool,e=.returned (.bool b)/\(b=true->P)/\Below w.heap.size w w'
theorem UW(s:Sc)(A:iX)(n c:Nat)(w:l6)(hg:Sgs w w.heap.size A n s.segs):Calls prog 22 #[s.v A n c] w (Hn (XQ s) w):=by
 have h2:=ze (Bs.one w (s.ls A n c) 25);by_cases hn:8<n
 ·have e1:decide ((n:Int)<=8)=false:=by simp;omega
  clear hg
  go_in
  go_wp2_with fail;go_ret;exact⟨false,rfl,(fun h=>by cases h),h2.o.b⟩
 ·have e1:decide ((n:Int)<=8)=true:=by simp;omega
  have HC:=ze (fun W(hb:Below w.heap.size w W)=>UV s A n c W ((hg.below hb).mono hb.size) (by omega));clear hg
  go_in
  go_wp2_with fail;refine(HC.o _ h2.o.b).mono ?_;rintro r w1 ⟨z,rfl,hz,h3⟩;have HZ:=ze hz;have h1:=ze (h2.o.step h3);obtain⟨⟨a0,a1,a2,a3,a4,a5,a6,a7,a8,a9,a10,a11,a12⟩,-⟩:=(h1.o.cell (q:=w.heap.size) (l:=s.ls A n c) (by simp)).o13;clear hz h3 h2 a1 a2 a3 a4 a5 a6 a7 a8 a9 a11 a12;by_cases h0:z=0
  ·have e2:(z==0)=true:=by simpa using h0
   by_cases hf:s.fl<=20
   ·have e3:decide (s.fl<=20)=true:=by simpa using hf
    by_cases hh:s.hor<=300
    ·have e4:decide (s.hor<=300)=true:=by simpa using hh
     have HF:=ze (show XQ s from⟨HZ.o h0,hf,hh⟩);clear h0 hf hh;go_wp2_with fail;go_ret;exact⟨true,rfl,fun _=>HF.o,h1.o.b⟩
    ·have e4:decide (s.hor<=300)=false:=by simpa using hh
     clear h0 hf hh;go_wp2_with fail;go_ret;exact⟨false,rfl,(fun h=>by cases h),h1.o.b⟩
   ·have e3:decide (s.fl<=20)=false:=by simpa using hf
    clear h0 hf;go_wp2_with fail;go_ret;exact⟨false,rfl,(fun h=>by cases h),h1.o.b⟩
  ·have e2:(z==0)=false:=by simpa using h0
   clear h0;go_wp2_with fail;go_ret;exact⟨false,rfl,(fun h=>by cases h),h1.o.b⟩
def dS(s:Sc)(wn:Nat)(ws:l8):Prop:=XQ s/\wn<=600/\∃ a n,Run (s.segs.map qF) ws (qw (s.segs.map qF) s.hor) 0 0 0 (some (a,n))
theorem bQ(s:Sc)(A:iX)(n c:Nat)(wA:iX)(wn wc:Nat)(ws:l8)(w:l6)(hg:Sgs w w.heap.size A n s.segs)(hw:HB.Rd w w.heap.size 1 wA wn (ws.map (Value.int .u32))/\ws.length=wn)(hwx:∀ x∈ws,0<=x/\x<=4294967295):
  Calls prog 5 #[s.v A n c,.slice wA wn wc] w (Hn (dS s wn ws) w):=by
 have h2:=ze (Bs.one w (s.ls A n c) 25);have HS:=ze (fun W(hb:Below w.heap.size w W)=>UW s A n c W ((hg.below hb).mono hb.size));have HG:=ze hg;have HW:=ze hw;obtain⟨⟨a0,a1,a2,a3,a4,a5,a6,a7,a8,a9,a10,a11,a12⟩,-⟩:=(h2.o.cell (q:=w.heap.size) (l:=s.ls A n c) (by simp)).o13;clear hg hw a0 a1 a2 a3 a4 a5 a6 a7 a8 a9 a10 a11 a12
 go_in
 go_wp2_with fail;refine(HS.o _ h2.o.b).mono ?_;rintro r w1 ⟨b,rfl,hP,h5⟩;have HP:=ze hP;have h0:=ze (h2.o.step h5);clear hP h5 HS h2;cases b with
 |false=>
  go_wp2_with fail;go_ret;exact⟨false,rfl,(fun h=>by cases h),h0.o.b⟩
 |true=>
  by_cases hn:600<wn
  ·have e1:decide ((600:Int)<wn)=true:=by simp;omega
   go_wp2_with fail;go_ret;exact⟨false,rfl,(fun h=>by cases h),h0.o.b⟩
  ·have e1:decide ((600:Int)<wn)=false:=by simp;omega
   obtain⟨hs,hf,hh⟩:=HP.o rfl;have HL:=ze (fun W(hb:Below w.heap.size w W)=>Vg s hs hf (by omega) A n c wA wn wc ws W ((HG.o.below hb).mono hb.size) ⟨(HW.o.1.below hb).mono hb.size,HW.o.2⟩ (by omega) hwx);obtain⟨⟨a0,a1,a2,a3,a4,a5,a6,a7,a8,a9,a10,a11,a12⟩,-⟩:=(h0.o.cell (q:=w.heap.size) (l:=s.ls A n c) (by simp)).o13;have h8:=h0.o.lt (q:=w.heap.size) (l:=s.ls A n c) (by simp);go_wp2_with fail;refine(HL.o _ h0.o.b).mono ?_;rintro r w3 ⟨h6,rr,h1,h7⟩;have h3:=ze h1;have h4:=ze (h0.o.step h6);clear h1 h6 HL;rcases h7 with⟨-,rfl⟩|⟨pA,pc,a',P,rfl,rfl,-⟩
   ·go_wp2_with fail;go_ret;exact⟨false,rfl,(fun h=>by cases h),(h4.o.step ((Below.refl _ w3).alloc fi _)).b⟩
   ·have HF:=ze (show dS s wn ws from⟨⟨hs,hf,hh⟩,by omega,_,_,h3.o⟩);go_wp2_with fail;go_ret;exact⟨true,rfl,fun _=>HF.o,(h4.o.step ((Below.refl _ w3).alloc fi _)).b⟩
theorem Hr(t:iY)(tA:iX)(tn tk:Nat)(lA:iX)(ln lk:Nat)(u:Int)(w:l6):Calls prog 31 #[UT t tA tn tk lA ln lk u] w (fk (O J 2) w):=by
 go_in
 go_wp2_with fail;go_ret;exact⟨rfl,by go_grown⟩
def zH(k t:Int):Sc:=⟨4,1,1,2,1,1,1,1,1,50,2,5,[⟨2,t,k⟩]⟩
theorem UX(k t:Int)(w:l6):Calls prog 24 #[O J k,O J t] w fun e w'=>(∃A c,e=.returned ((zH k t).v A 1 c)/\Sgs w' w'.heap.size A 1 (zH k t).segs)/\Below w.heap.size w w':=by
 go_in
 go_wp2_with fail;refine bodyPost_ret (v:=(zH k t).v (some ⟨w.heap.size+1,0,none⟩) 1 1) (by rw[zi rfl];go_simp;exact⟨rfl,rfl,rfl,rfl,rfl,rfl,rfl,rfl,rfl,rfl,rfl,rfl⟩) rfl ?_;have h:=Rd.new (w.alloc (.cells #[O J 4,O J 1,O J 1,O J 2,O J 1,O J 1,O J 1,O J 1,.slice (some ⟨w.heap.size+1,0,none⟩) 1 1,O J 1,O J 50,O J 2,O J 5] 25)) 68 (xs:=YL ⟨2,t,k⟩) (n:=1) (sz:=3) rfl;rw[World.size_alloc]at h;exact⟨⟨_,1,rfl,h.mono (by simp),rfl⟩,by go_grown⟩
theorem Ht(t:Int)(ht:1<=t/\t<=1000):(zH 0 t).ok:=by
 have h0:∀ g∈(zH 0 t).segs,g.ok:=fun g hg=>by
  have e:g=⟨2,t,0⟩:=by simpa[zH]using hg
  subst e;exact⟨⟨by show(1:Int)<=2;omega,by show(2:Int)<=4;omega⟩,⟨by show 1<=t;omega,by show t<=1048576;omega⟩,⟨by show(0:Int)<=0;omega,by show(0:Int)<=4000;omega⟩⟩
 refine⟨?_,?_,?_,?_,?_,?_,?_,?_,?_,?_,?_,?_,?_,h0⟩<;>simp[zH]
theorem XR:Run ((zH 0 9).segs.map qF) [] (qw ((zH 0 9).segs.map qF) (zH 0 9).hor) 0 0 0 (some (0,0)):=by
 have e:qw ((zH 0 9).segs.map qF) (zH 0 9).hor=9:=by decide
 rw[e];have key:∀ k t:Nat,k+t=9->Run ((zH 0 9).segs.map qF) [] k t 0 0 (some (0,0)):=by
  intro k
  induction k with
  |zero=>intro t _;exact Run.done _ _ _
  |succ k ih=>
   intro t ht;refine Run.quiet k t 0 0 0 (2,9,0) _ (.inl ⟨rfl,0,by decide,rfl,by simp[WhenP.upto,WhenP.tot],?_⟩) rfl rfl (ih (t+1) (by omega))
   show(t:Int)<9
   omega
 exact key 9 0 rfl
def bR(s:Sc)(m a n:Nat)(w:l6)(e:Ending)(w':l6):Prop:=
 ∃(t:iY)(tA:iX)(tk:Nat)(lA:iX)(ln lk:Nat)(l:List Tr),e=.returned (.tuple #[UT t tA l.length tk lA ln lk a,.bool true])/\YD s m l t/\Trs w' w'.heap.size tA l.length l/\TripsP n l/\(ln:Int)=s.cars/\(((qw (s.segs.map qF) s.hor:Nat):Int)+2*(n:Int)*qt s<=s.hor->l.length=n/\∀ t∈l,0<=t.al)/\Below w.heap.size w w'
theorem Hu{t:iY}(h:t≠⟨#[]⟩):(t==(⟨#[]⟩:iY))=false:=by
 rcases t with⟨d⟩
 show(d== #[])=false
 rw[Bool.eq_false_iff];intro h2;exact h (by simpa using h2)
theorem bS{s:Sc}{m:Nat}{l:List Tr}{t:iY}(h:YD s m l t):t≠⟨#[]⟩:=by
 obtain⟨x,y,ws,rfl,-⟩:=h;intro h0;have h1:=congrArg (fun z:iY=>z.data.toList.length) h0;simp[Lib.join,List.intercalate,List.intersperse]at h1
theorem Zk(s:Sc)(hs:s.ok)(hf:s.fl<=20)(hh:s.hor<=5000)(A:iX)(sn sk:Nat)(wA:iX)(wn wc:Nat)(ws:l8)(w:l6)(hg:Sgs w w.heap.size A sn s.segs)(hw:HB.Rd w w.heap.size 1 wA wn (ws.map (Value.int .u32))/\ws.length=wn)(hwn:wn<=600)(hwx:∀ x∈ws,0<=x/\x<=4294967295)
  (ht:Tab w)(hD:5<w.heap.size)(hrp:RepOK w)(m:Nat)(hm:s.bins=(m:Int))(a n:Nat)(hr:Run (s.segs.map qF) ws (qw (s.segs.map qF) s.hor) 0 0 0 (some (a,n))):
  Calls prog 10 #[s.v A sn sk,.slice wA wn wc] w (bR s m a n w):=by
 have hn:=ze (fun W(hb:Below w.heap.size w W)=>Hi s hs hf hh wA wn wc ws W ⟨(hw.1.below hb).mono hb.size,hw.2⟩ hwn hwx (ht.below hb hD) (kK hD hb.size) (hrp.below hb) m hm a n hr);have ho:=ze (fun W(hb:Below w.heap.size w W)=>Je s hs A sn sk w.heap.size W (hg.below hb) hb.size);have h9:=ze (Bs.two w (s.ls A sn sk) qZ 25 44);clear hw ht hrp hr hm hg
 go_in
 go_upto_region 4 with(go_at_call 29;(with_reducible refine(ho.o _ h9.o.b).mono ?_);rintro r w1 ⟨rfl,h5⟩;have h7:=ze (h9.o.step h5);clear h5);have h4:=ze (hn.o _ h7.o.b);clear hn ho h9;go_upto_region 5 with(go_at_call 30;(with_reducible refine h4.o.mono ?_);rintro r w2 ⟨t,tA,tk,lA,ln,lk,l,rfl,hx,h6,hC,hE,hB,hv,hy⟩;have hF:=ze hv;clear hv;have HX:=ze hx;have hp:=ze h6;have h3:=ze hC;have hJ:=ze hE;have hG:=ze hB;have ha:=ze (h7.o.step hy);clear hx h6 hC hE hB hy);have hd:=ze (ha.o.new (q:=w2.heap.size) rfl (ZM t tA l.length tk lA ln lk a) 44);have hM:w.heap.size+1<w1.heap.size:=h7.o.lt (q:=w.heap.size+1) (l:=qZ) (by simp);have hN:w.heap.size+1<w2.heap.size:=ha.o.lt (q:=w.heap.size+1) (l:=qZ) (by simp);have hI:=ze (show∀b off,tA=some ⟨b,off,none⟩->w.heap.size+1<b from fun b off e=>by have:=h3.o b off e;omega);refine zq (w:=w) (fun V=>Bs w V [(w2.heap.size,ZM t tA l.length tk lA ln lk a),(w.heap.size+1,qZ),(w.heap.size,s.ls A sn sk)]/\Trs V w2.heap.size tA l.length l) ⟨hd.o,hp.o.below (by go_grown)⟩ hd.o.b ?_;clear h7 ha hd hp h3 h4 hM;generalize w2.heap.size=k2 at*;rintro V ⟨h8,h6⟩ hL;have hl:=ze h8;have hu:=ze h6;have hq:=ze (bS HX.o);have etn:(t==(⟨#[]⟩:iY))=false:=Hu hq.o;have hj:k2<V.heap.size:=h8.lt (q:=k2) (l:=ZM t tA l.length tk lA ln lk a) (by simp);have hA:w.heap.size+1<=V.heap.size:=by omega
 have hc:=h8.cell (q:=k2) (l:=ZM t tA l.length tk lA ln lk a) (by simp);have c0:=(hc 0 _ rfl).1;have c1:=(hc 1 _ rfl).1;have c2:=(hc 2 _ rfl).1;have c3:=(hc 3 _ rfl).1;have c4:=(hc 4 _ rfl).1;have c5:=(hc 5 _ rfl).1;have c6:=(hc 6 _ rfl).1;have c7:=(hc 7 _ rfl).1;have MK:=ze (fun U(hb:Below V.heap.size V U)=>(show U.cell? ⟨k2,0,none⟩=some (O J 0)/\U.cell? ⟨k2,1,none⟩=some (O J 0)/\U.cell? ⟨k2,2,none⟩=some (O J 0)/\U.cell? ⟨k2,3,none⟩=some (O J 0)/\U.cell? ⟨k2,4,none⟩=some (.string t)/\U.cell? ⟨k2,5,none⟩=some (.slice tA l.length tk)/\U.cell? ⟨k2,6,none⟩=some (.slice lA ln lk)/\U.cell? ⟨k2,7,none⟩=some (O J a)/\Below (w.heap.size+1) V U from⟨zf hb c0,zf hb c1,zf hb c2,zf hb c3,zf hb c4,zf hb c5,zf hb c6,zf hb c7,hb.mono hA⟩));clear h8 h6 hL hc;refine wp_region_held_drew (S:=(fun U=>U.cell? ⟨k2,0,none⟩=some (O J 0)/\U.cell? ⟨k2,1,none⟩=some (O J 0)/\U.cell? ⟨k2,2,none⟩=some (O J 0)/\U.cell? ⟨k2,3,none⟩=some (O J 0)/\U.cell? ⟨k2,4,none⟩=some (.string t)/\U.cell? ⟨k2,5,none⟩=some (.slice tA l.length tk)/\U.cell? ⟨k2,6,none⟩=some (.slice lA ln lk)/\U.cell? ⟨k2,7,none⟩=some (O J a)/\Below (w.heap.size+1) V U)) (by kernel_rfl) ?_ (fun hHeld=>?_)
 ·exact MK.o _ fh.drew
 refine qK [0,1] (by simp[zl];rfl) (by kernel_rfl) (by assumption) ?_
 iterate 2 (refine qz (v:=?_) (fun _ _ _ h=>h) (by rfl) ?_ ?_;rotate_left;(next=>((intro w he;(try dsimp only at he);go_simp);(try with_reducible rfl)));try go_frame)
 refine qL ?_;refine jj [2] (by kernel_rfl) ?_;refine j6 (by simp[zl];rfl) rfl (fun K hK=>?_) ym;go_simp;have hi:Below V.heap.size V V.drew:=fh.drew;go_at_call 31;(with_reducible refine(Hr t tA l.length tk lA ln lk a _).mono ?_);rintro e w9 ⟨rfl,hb9⟩;have h0:=ze (hi.trans (hb9.mono hi.size));have hz:=(hl.o.step h0.o).cell (q:=w.heap.size+1) (l:=qZ) (by simp);have z0:=(hz 0 _ rfl).1;have y0:=(hz 0 _ rfl).2;have z1:=(hz 1 _ rfl).1;have y1:=(hz 1 _ rfl).2;have z2:=(hz 2 _ rfl).1;have y2:=(hz 2 _ rfl).2;have z3:=(hz 3 _ rfl).1;have y3:=(hz 3 _ rfl).2;have z4:=(hz 4 _ rfl).1;have y4:=(hz 4 _ rfl).2;have z5:=(hz 5 _ rfl).1;have y5:=(hz 5 _ rfl).2;have z6:=(hz 6 _ rfl).1;have y6:=(hz 6 _ rfl).2;have z7:=(hz 7 _ rfl).1;have y7:=(hz 7 _ rfl).2;clear hb9 hi hz
 refine hK.out _ _ ?_ (fun hHeld=>?_)
 ·exact MK.o _ h0.o
 clear hK K
 try go_frame
 refine qK [3,4,5,6,7,8] (by simp[zl];rfl) (by kernel_rfl) (by assumption) ?_
 iterate 6 (refine qz (v:=?_) (fun _ _ _ h=>h) (by rfl) ?_ ?_;rotate_left;(next=>((intro w he;(try dsimp only at he);go_simp);(try with_reducible rfl)));try go_frame)
 refine qL ?_;refine jj [9] (by kernel_rfl) ?_;refine j6 (by simp[zl];rfl) rfl (fun K hK=>?_) ym;go_simp;refine hK.out _ _ ?_ (fun hHeld=>?_)
 ·have h1:=xw w9 (w.heap.size+1) (O J 0) (O J 0) (O J 0) (O J 0) (.string t) (.slice tA l.length tk) (.slice lA ln lk) (O J a);have h2:¬ (k2=w.heap.size+1):=(by omega);exact⟨h1.cell (a:=⟨k2,0,none⟩) (zf h0.o c0) h2,h1.cell (a:=⟨k2,1,none⟩) (zf h0.o c1) h2,h1.cell (a:=⟨k2,2,none⟩) (zf h0.o c2) h2,h1.cell (a:=⟨k2,3,none⟩) (zf h0.o c3) h2,h1.cell (a:=⟨k2,4,none⟩) (zf h0.o c4) h2,h1.cell (a:=⟨k2,5,none⟩) (zf h0.o c5) h2,h1.cell (a:=⟨k2,6,none⟩) (zf h0.o c6) h2,h1.cell (a:=⟨k2,7,none⟩) (zf h0.o c7) h2,((((((((h0.o.mono hA).setCell (p:=⟨w.heap.size+1,0,none⟩) fi _).setCell (p:=⟨w.heap.size+1,1,none⟩) fi _).setCell (p:=⟨w.heap.size+1,2,none⟩) fi _).setCell (p:=⟨w.heap.size+1,3,none⟩) fi _).setCell (p:=⟨w.heap.size+1,4,none⟩) fi _).setCell (p:=⟨w.heap.size+1,5,none⟩) fi _).setCell (p:=⟨w.heap.size+1,6,none⟩) fi _).setCell (p:=⟨w.heap.size+1,7,none⟩) fi _⟩
 clear hK K
 try go_frame
 refine jj [10] (by kernel_rfl) ?_;refine j6 (by simp[zl];rfl) rfl (fun K hK=>?_) ym;go_simp;refine hK.out _ _ ?_ (fun hHeld=>?_)
 ·exact hHeld
 clear hK K
 try go_frame
 refine wpAnyH_done (by kernel_rfl) ?_ _;go_wp2_with fail;refine bodyPost_ret (v:=.tuple #[UT t tA l.length tk lA ln lk a,.bool true]) (by rw[zm rfl];go_simp;exact fun h=>hq.o ((Lib.bytes_beq_iff t ⟨#[]⟩).1 (by rw[h];first|(go_simp;done)|(simp;done)))) rfl ?_;have h1:=xw w9 (w.heap.size+1) (O J 0) (O J 0) (O J 0) (O J 0) (.string t) (.slice tA l.length tk) (.slice lA ln lk) (O J a);refine⟨t,tA,tk,lA,ln,lk,l,rfl,HX.o,⟨(xu (hu.o.below (h0.o.mono (Vq hj))).1 (vD (Vq hj) h0.o.size) h1 (fun b off e e2=>by have:=hI.o b off e;have e3:b=w.heap.size+1:=e2;omega)).mono (vD (vD (Vq hj) h0.o.size) h1.size),hu.o.2⟩,hJ.o,hG.o,hF.o,?_⟩;have h5:=(hl.o.step h0.o).b;exact h5.trans (h1.below (fun k hk=>by have e:k=w.heap.size+1:=hk;omega) h5.size)
def Hv(w:l6)(e:Ending)(w':l6):Prop:=e=.returned (.bool true)/\Below w.heap.size w w'
theorem UY(w:l6)(ht:Tab w)(hD:5<w.heap.size)(hrp:RepOK w):Calls prog 7 #[] w (Hv w):=by
 have HP:=ze (UX 0 9 w);have h2:=ze (fun A c W(hg:Sgs W W.heap.size A 1 (zH 0 9).segs)(hb:Below w.heap.size w W)=>Zk (zH 0 9) (Ht 9 (by omega)) (by show(4:Int)<=20;omega) (by show(50:Int)<=5000;omega) A 1 c none 0 0 [] W hg ⟨Rd.nil,rfl⟩ (by omega) (fun x hx=>by cases hx) (ht.below hb hD) (kK hD hb.size) (hrp.below hb) 2 rfl 0 0 XR);clear ht hD hrp
 go_in
 go_wp2_with fail;refine HP.o.mono ?_;rintro r w1 ⟨⟨A,c,rfl,hg⟩,h3⟩;have h0:=ze h3;have HG:=ze hg;clear hg h3;go_wp2_with fail;refine(h2.o A c w1 HG.o h0.o).mono ?_;rintro r w2 ⟨t,tA,tk,lA,ln,lk,l,rfl,-,-,h6,h8,-,h4⟩;have h5:l.length=0:=Nat.le_zero.1 h6.n;have h7:ln=1:=by
  have e:(zH 0 9).cars=1:=rfl;omega
 subst h7;rw[h5];have h1:=ze (h0.o.trans (h4.mono h0.o.size));clear h6 h8 h4 h5 h2 HP;go_wp2_with fail;go_ret;have hz:=h1.o.size;exact⟨rfl,h1.o.trans (by go_grown)⟩
end
section
open Go.RowKit HB Go.Maps CalP HeapP DigP HistP ArrP WhenP
theorem gX{l:List WhenP.Seg}{ws:l8}{k t a n:Nat}{r:Option (Nat×Nat)}(h:Run l ws k t a n r):∀(a' n':Nat),r=Option.some (a',n')->a<=ws.length->a'<=ws.length:=by
 induction h with
 |done t a n=>intro a' n' e ha;cases e;exact ha
 |quiet k t a n i g r hi hg h0 h ih=>exact ih
 |dry k t a n i g hi hg h0 h=>intro a' n' e;cases e
 |dry2 k t a n i g x m j hi hg h0 hx hm hj h=>intro a' n' e;cases e
 |some k t a n i g x m j r hi hg h0 hx hm hj hl h ih=>intro a' n' e _;exact ih a' n' e hl
theorem ia{l:List WhenP.Seg}{ws:l8}{k t a n:Nat}(h:Run l ws k t 0 0 (some (a,n))):n<=ws.length:=by
 have h1:=gX h a n rfl (vf _);have h2:=h.le a n rfl;omega
theorem Bs.tl{w W:l6}{p:Nat×iZ}{L:List (Nat×iZ)}(h:Bs w W (p::L)):Bs w W L:=⟨h.b,fun q hq=>h.l q (yP _ hq)⟩
abbrev Sc.at(s:Sc)(h d:Int):Sc:={s with hor:=h,disp:=d}
theorem Sc.ok.at{s:Sc}{h d:Int}(hs:s.ok)(h1:1<=h/\h<=1048576)(d1:1<=d/\d<=4):(s.at h d).ok:=
 ⟨hs.fl,hs.gap,hs.cars,hs.cap,hs.opn,hs.dw,hs.cl,hs.tr,h1,hs.bins,hs.width,d1,hs.len,hs.segs⟩
theorem ib{s:Sc}(hs:s.ok):1<=tot (s.segs.map qF):=by
 have h1:=hs.len;have h2:=hs.segs;rcases hl:s.segs with _|⟨g,l⟩
 ·rw[hl]at h1;simp at h1
 ·have h3:=(h2 g (by rw[hl];exact xz ..)).t;have h4:=(Jz (l.map qF)).1;have h5:tk (qF g)=min (max g.t 0) 1048576:=rfl
  show 1<=tk (qF g)+tot (l.map qF)
  omega
theorem fU{l:List WhenP.Seg}{h:Int}(hh:tot l<=h):qw l h=(tot l).toNat:=by unfold qw;congr 1;omega
theorem gq(s:Sc)(A:iX)(sn sk:Nat)(wA:iX)(wn wk:Nat)(ws:l8)(w:l6)(hg:Sgs w w.heap.size A sn s.segs)(hw:HB.Rd w w.heap.size 1 wA wn (ws.map (Value.int .u32))/\ws.length=wn)(hwx:∀ x∈ws,0<=x/\x<=4294967295)
  (ht:Tab w)(hD:5<w.heap.size)(hrp:RepOK w):
  Calls prog 3 #[s.v A sn sk,.slice wA wn wk] w (Hv w):=by
 have hV:=ze (fun W(hb:Below w.heap.size w W)=>bQ (s.at 300 s.disp) A sn sk wA wn wk ws W ((hg.below hb).mono hb.size) ⟨(hw.1.below hb).mono hb.size,hw.2⟩ hwx);have he:=ze (fun W(hb:Below w.heap.size w W)=>UY W (ht.below hb hD) (kK hD hb.size) (hrp.below hb));have hi:=ze (fun h d(hs:(s.at h d).ok)(hf:s.fl<=20)(hh:h<=5000)(hB:wn<=600) m(hm:s.bins=((m:Nat):Int)) a n(hr:Run (s.segs.map qF) ws (qw (s.segs.map qF) h) 0 0 0 (some (a,n))) W(hb:Below w.heap.size w W)=>Zk (s.at h d) hs hf hh A sn sk wA wn wk ws W ((hg.below hb).mono hb.size) ⟨(hw.1.below hb).mono hb.size,hw.2⟩ hB hwx (ht.below hb hD) (kK hD hb.size) (hrp.below hb) m hm a n hr);have hE:=ze (fun h d(hs:(s.at h d).ok)(hf:s.fl<=20)(hh:h<=10000)(hB:wn<=100000) W(hb:Below w.heap.size w W)=>Vg (s.at h d) hs hf hh A sn sk wA wn wk ws W ((hg.below hb).mono hb.size) ⟨(hw.1.below hb).mono hb.size,hw.2⟩ hB hwx);have hO:=ze (fun(h8:sn<=8) W(hb:Below w.heap.size w W)=>XN A sn sk w.heap.size (s.segs.map qF) W (by rw[List.flatMap_map];exact hg.1.below hb) (by rw[KS];exact hg.2) (by omega) hb.size);have H9:=ze hg.2;have Ha:=ze hw.2;have hJ:=ze (Bs.one w ((s.at 300 s.disp).ls A sn sk) 25);clear hg hw ht hrp
 go_in
 go_upto_region 2 with(fail);refine zq (w:=w) (fun V=>Bs w V [(w.heap.size,(s.at 300 s.disp).ls A sn sk)]) hJ.o hJ.o.b ?_;clear hJ;rintro V h4 hd;have h6:=ze h4;obtain⟨⟨a0,a1,a2,a3,a4,a5,a6,a7,a8,a9,a10,a11,a12⟩,-⟩:=(h4.cell (q:=w.heap.size) (l:=(s.at 300 s.disp).ls A sn sk) (by simp)).o13;clear h4 hd;go_wp2_with fail;refine(hV.o _ h6.o.b).mono ?_;rintro r w1 ⟨b,rfl,hP,H1⟩;have HP:=ze hP;have ha:=ze (h6.o.step H1);clear hP H1 hV h6 a0 a1 a2 a3 a4 a5 a6 a7 a8 a9 a10 a11 a12;cases b with
 |false=>
  have HL:=ze (he.o _ ha.o.b);clear HP he hi hE hO;go_wp2_with fail;refine HL.o.mono ?_;rintro r w2 ⟨rfl,h9⟩;have h7:=ze (ha.o.step h9);clear h9;go_wp2_with fail;go_ret;exact⟨rfl,h7.o.b⟩
 |true=>
  obtain⟨⟨hG,hf,-⟩,hB,a,n,hr⟩:=HP.o rfl;have h8:sn<=8:=by have h1:=hG.len;have h2:=H9.o;have h3:s.segs.length<=8:=h1.2;omega
  obtain⟨T,hT⟩:∃ T,T=tot (s.segs.map qF):=⟨_,rfl⟩;have hq:=ze (fun W(hb:Below w.heap.size w W)=>(show Calls prog 6 #[.slice A sn sk] W (fun e w'=>e=.returned (O J T)/\Below W.heap.size W w')from by rw[hT];exact hO.o h8 W hb));have hF:=ze hT;have Hs:1<=T:=by rw[hT];exact ib (s:=s.at 300 s.disp) hG
  obtain⟨⟨a0,a1,a2,a3,a4,a5,a6,a7,a8,a9,a10,a11,a12⟩,-⟩:=(ha.o.cell (q:=w.heap.size) (l:=(s.at 300 s.disp).ls A sn sk) (by simp)).o13;have ho:=ze hG;have HR:=ze hr;clear HP hG hr hT hO;by_cases hu:200<T
  ·have e1:decide (200<T)=true:=decide_eq_true hu;go_wp2_with(go_at_call 6;(with_reducible refine(hq.o _ ha.o.b).mono ?_);rintro r w2 ⟨rfl,h9⟩;have h7:=ze (ha.o.step h9);clear h9);refine(he.o _ h7.o.b).mono ?_;rintro r w3 ⟨rfl,hv⟩;have hc:=ze (h7.o.step hv);clear hv hi hE hq;go_wp2_with fail;go_ret;exact⟨rfl,hc.o.b⟩
  ·have e1:decide (200<T)=false:=decide_eq_false hu;go_upto_region 4 with(go_at_call 6;(with_reducible refine(hq.o _ ha.o.b).mono ?_);rintro r w2 ⟨rfl,h9⟩;have h7:=ze (ha.o.step h9);clear h9);clear e1 a0 a1 a2 a3 a4 a5 a6 a7 a8 a9 a10 a11 a12 ha;obtain⟨⟨a0,a1,a2,a3,a4,a5,a6,a7,a8,a9,a10,a11,a12⟩,-⟩:=(h7.o.cell (q:=w.heap.size) (l:=(s.at 300 s.disp).ls A sn sk) (by simp)).o13;have hX:=ze (hE.o 300 s.disp ho.o hf (by omega) (by omega) _ h7.o.b);go_wp2_with fail;refine hX.o.mono ?_;rintro r w3 ⟨hv,rr,hA,Hk⟩;obtain rfl:=HR.o.one hA;rcases Hk with⟨h0,-⟩|⟨pA,pc,a',P,h0,rfl,-,-,-,-,Hj⟩
   ·cases h0
   obtain⟨rfl,rfl⟩:a=a'/\n=P.length:=by injection h0 with h0;injection h0 with h1 h2;exact⟨h1,h2⟩
   have hc:=ze (h7.o.step hv);have Hq:P.length<=600:=by have h1:=ia HR.o;have h2:=Ha.o;omega
   clear a0 a1 a2 a3 a4 a5 a6 a7 a8 a9 a10 a11 a12 hA h0 hv hX hE h7 Hj;generalize P.length=n at*;clear P;go_upto_region 5 with(fail);have hL:=ze ((hc.o.new (q:=w3.heap.size) rfl [.slice wA wn wk,O J a] 32).tl);refine zq (w:=w) (fun V=>Bs w V [(w.heap.size,(s.at 300 s.disp).ls A sn sk)]) hL.o hL.o.b ?_;clear hc hL;rintro V4 h4 hd;have h6:=ze h4;clear h4 hd;obtain⟨q0,q1⟩:=gW (s:=s.at 300 s.disp) ho.o;obtain⟨H,hH⟩:∃ H,H=T+(n:Int)*(2*qt s):=⟨_,rfl⟩;have Ho:0<=(n:Int)*(2*qt s):=JE (by omega) (by have h:0<=qt s:=q0;omega);have hU:=ze (fun W=>(show Calls prog 9 #[(s.at 300 s.disp).v A sn sk,O J (n:Int),O J T] W (fun e w'=>e=.returned (O J H)/\Below W.heap.size W w')from by rw[hH];exact gp (s.at 300 s.disp) ho.o A sn sk n T (by omega) (by omega) (by omega) (by omega) W));have hN:=ze (show T<=H by omega);have hW:=ze (show T+2*(n:Int)*qt s<=H from by rw[hH,cX 2 (n:Int),Int.mul_assoc];omega);clear q0 q1 hH Ho
   go_cut [] (fun wx=>Bs w wx [(w.heap.size,(s.at H s.disp).ls A sn sk)])
   case first=>
    obtain⟨⟨a0,a1,a2,a3,a4,a5,a6,a7,a8,a9,a10,a11,a12⟩,-⟩:=(h6.o.cell (q:=w.heap.size) (l:=(s.at 300 s.disp).ls A sn sk) (by simp)).o13;clear hi he HR hF
    go_region_with (first
     |(go_at_call 6;(with_reducible refine(hq.o _ h6.o.b.drew).mono ?_);rintro r wX ⟨rfl,H3⟩;have hQ:=ze (h6.o.step (show Below V4.heap.size V4 wX from(Below.refl V4.heap.size V4).drew.trans H3));clear H3;obtain⟨⟨b0,b1,b2,b3,b4,b5,b6,b7,b8,b9,b10,b11,b12⟩,-⟩:=(hQ.o.cell (q:=w.heap.size) (l:=(s.at 300 s.disp).ls A sn sk) (by simp)).o13)
     |(go_at_call 9;(with_reducible refine(hU.o _).mono ?_);rintro r wY ⟨rfl,H4⟩;have hR:=ze (hQ.o.step H4);clear H4;obtain⟨⟨-,-,-,-,-,-,-,-,-,-,d10,-,-⟩,-,-,-,-,-,-,-,-,-,-,g10,-,-⟩:=(hR.o.cell (q:=w.heap.size) (l:=(s.at 300 s.disp).ls A sn sk) (by simp)).o13))
    all_goals(
     go_wp2_with fail
     go_meet
     exact hR.o.set1 10 (O J H) (fun p hp=>by cases hp))
   case rest=>
   obtain⟨W4,Hc⟩:∃ W4,W4=wc:=⟨_,rfl⟩;subst Hc;have hC:=ze hcut;clear h6 hU hq hcut;have a10:=((hC.o.cell (q:=w.heap.size) (l:=(s.at H s.disp).ls A sn sk) (by simp)) 10 _ rfl).1;by_cases h5:5000<H
   ·have e1:decide (5000<H)=true:=decide_eq_true h5;clear hi;go_wp2_with fail;refine(he.o _ hC.o.b).mono ?_;rintro r w5 ⟨rfl,hz⟩;have hM:=ze (hC.o.step hz);clear hz;go_wp2_with fail;go_ret;exact⟨rfl,hM.o.b⟩
   ·have e1:decide (5000<H)=false:=decide_eq_false h5;obtain⟨m,hm⟩:∃ m:Nat,s.bins=(m:Int):=⟨s.bins.toNat,by have h:1<=s.bins/\s.bins<=64:=ho.o.bins;omega⟩;have hZ:((qw (s.segs.map qF) H:Nat):Int)=T:=by have h1:=hF.o;have h2:=hN.o;rw[fU (by omega)];omega
    have H8:=ze (fun k(k1:1<=k)(k4:k<=4)=>hi.o H k (Sc.ok.at (s:=s.at 300 s.disp) ho.o (by have:=hN.o;omega) ⟨k1,k4⟩) hf (by omega) hB m hm a n (by
     have h1:=hF.o;have h2:=hN.o;have h3:=HR.o;rw[fU (by omega)]at h3;rw[fU (by omega)];exact h3))
    have H6:=ze (show((qw (s.segs.map qF) H:Nat):Int)+2*(n:Int)*qt s<=H from by rw[hZ];exact hW.o);clear hi hZ HR hF hW hm;go_wp2_with fail
    go_loopw [8] (fun d wr=>∃ k x:Int,d=O J k/\1<=k/\k<=5/\Bs w wr [(w.heap.size,(s.at H x).ls A sn sk)]) (fun d _=>(5-intOf d).toNat)
    case atStart=>exact⟨1,s.disp,rfl,by omega,by omega,hC.o⟩
    case round=>
     obtain⟨k,x,rfl,k1,k5,h4⟩:=hrel;have hl:=ze h4;clear a10 h4;by_cases hk:k<=4
     ·have e2:decide (k<=4)=true:=decide_eq_true hk;obtain⟨⟨-,-,-,-,-,-,-,-,-,a9,-,-,-⟩,-,-,-,-,-,-,-,-,-,f9,-,-,-⟩:=(hl.o.cell (q:=w.heap.size) (l:=(s.at H x).ls A sn sk) (by simp)).o13;go_upto_region 12 with(fail);have hb9:=hl.o.set1 9 (O J k) (fun p hp=>by cases hp);refine zq (w:=w) (fun V=>Bs w V [(w.heap.size,(s.at H k).ls A sn sk)]) hb9 hb9.b ?_;clear hb9 hl a9 f9;rintro V5 h4 hd;have h6:=ze h4;obtain⟨⟨a0,a1,a2,a3,a4,a5,a6,a7,a8,a9,a10,a11,a12⟩,-⟩:=(h4.cell (q:=w.heap.size) (l:=(s.at H k).ls A sn sk) (by simp)).o13;have hn:=ze (H8.o k k1 hk _ h4.b);clear h4 hd;go_upto_region 13 with(go_at_call 10;(with_reducible refine hn.o.mono ?_);rintro r w2 ⟨t,tA,tk,lA,ln,lk,l,rfl,-,hj,-,-,H0,h9⟩;have hI:=ze (H0 H6.o);rw[hI.o.1]at hj⊢;have hY:=ze hj;have h7:=ze (h6.o.step h9);clear hj H0 h9 a0 a1 a2 a3 a4 a5 a6 a7 a8 a9 a10 a11 a12);have Hw:w.heap.size<w2.heap.size:=h7.o.lt (q:=w.heap.size) (l:=(s.at H k).ls A sn sk) (by simp);have hc:=ze (h7.o.new (q:=w2.heap.size) rfl (ZM t tA n tk lA ln lk a) 44);refine zq (w:=w) (fun V=>Bs w V [(w2.heap.size,ZM t tA n tk lA ln lk a),(w.heap.size,(s.at H k).ls A sn sk)]/\Trs V w2.heap.size tA n l) ⟨hc.o,hY.o.below (by go_grown)⟩ hc.o.b ?_;clear h6 h7 hc hY hn;generalize w2.heap.size=k2 at*;rintro V6 ⟨h4,hj⟩ hd;have h6:=ze h4;have H5:k2<V6.heap.size:=h4.lt (q:=k2) (l:=ZM t tA n tk lA ln lk a) (by simp);have c5:=(h4.cell (q:=k2) (l:=ZM t tA n tk lA ln lk a) (by simp) 5 _ rfl).1;have hS:=ze (fun W(hb:Below V6.heap.size V6 W)=>yB tA n tk W.heap.size l W ((hj.below (hb.mono (Vq H5))).mono (vD (Vq H5) hb.size)) fi (by omega));clear h4 hj hd;go_wp2_with fail;refine(hS.o _ fh).mono ?_;rintro r w7 ⟨⟨y1,y2,y3,rfl,-,-,-,-,-,-,hy⟩,H2⟩;obtain rfl:y1=(n:Int):=hy hI.o.2;have H7:=ze (h6.o.step H2).tl;clear hy H2 hS h6 c5 hI;go_wp2_with fail;go_roundw
      case rel=>exact⟨k+1,k,by go_num,by omega,by omega,H7.o⟩
      case measure=>simp[intOf];omega
     ·obtain rfl:k=5:=by omega
      have e2:decide ((5:Int)<=4)=false:=by decide
      go_wp2_with fail;refine(he.o _ hl.o.b).mono ?_;rintro r w5 ⟨rfl,hz⟩;have hM:=ze (hl.o.step hz);clear hz;go_wp2_with fail;go_ret;exact⟨rfl,hM.o.b⟩
end
end Go.Proofs.YtdeogmbfgkepeaaGreatDoor
