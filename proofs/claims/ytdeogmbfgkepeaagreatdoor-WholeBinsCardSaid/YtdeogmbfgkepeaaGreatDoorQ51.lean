/- Contracts that WholeBins needs. Each tells its conditions. -/
import Derived.Test.YtdeogmbfgkepeaaGreatDoorQ40
import Derived.Test.YtdeogmbfgkepeaaGreatDoorQ45
import Derived.Test.YtdeogmbfgkepeaaGreatDoorQ49
import Derived.Test.YtdeogmbfgkepeaaGreatDoorQ50
set_option linter.unusedVariables false
set_option linter.unusedSimpArgs false
set_option maxRecDepth 100000
set_option maxHeartbeats 64000000
namespace Go.Proofs.YtdeogmbfgkepeaaGreatDoor
open Go.Proofs.Tryz
open Go.Value renaming int->O
open Go.IntKind renaming i64->J
section
open Go.RowKit HB Go.Maps CalP HeapP DigP HistP ArrP LexP
abbrev ZM(t:ByteArray)(tA:Option Addr)(tn tk:Nat)(lA:Option Addr)(ln lk:Nat)(u:Int):List Value:=[O J 0,O J 0,O J 0,O J 0,.string t,.slice tA tn tk,.slice lA ln lk,O J u]
abbrev UT(t:ByteArray)(tA:Option Addr)(tn tk:Nat)(lA:Option Addr)(ln lk:Nat)(u:Int):Value:=.agg #[O J 0,O J 0,O J 0,O J 0,.string t,.slice tA tn tk,.slice lA ln lk,O J u]
abbrev qZ:List Value:=[O J 0,O J 0,O J 0,O J 0,.string ⟨#[]⟩,.slice none 0 0,.slice none 0 0,O J 0]
def YD(s:Sc)(m:Nat)(l:List Tr)(t:ByteArray):Prop:=∃(x y:ByteArray)(ws:List Int),t=⟨(Lib.join [(qU s).data.toList,x.data.toList,y.data.toList,zD ws (zZ m s.width (zo m s.width m (waits l)) (zo m s.width m (zj l)) m)] [10]).toArray⟩/\(Lib.join [(qU s).data.toList,x.data.toList,y.data.toList,zD ws (zZ m s.width (zo m s.width m (waits l)) (zo m s.width m (zj l)) m)] [10]).length<=1000000000
structure TripsP(n:Nat)(l:List Tr):Prop where
 n:l.length<=n
 ok:∀ t∈l,t.ok
 wt:∀ x∈waits l,0<=x/\x<=1000
 tr:∀ x∈zj l,0<=x/\x<=1000
def cg(s:Sc)(m a n:Nat)(w:World)(e:Ending)(w':World):Prop:=
 ∃(t:ByteArray)(tA:Option Addr)(tk:Nat)(lA:Option Addr)(ln lk:Nat)(l:List Tr),e=.returned (UT t tA l.length tk lA ln lk a)/\YD s m l t/\Trs w' w'.heap.size tA l.length l/\(∀b off,tA=some ⟨b,off,none⟩->w.heap.size<=b)/\TripsP n l/\(ln:Int)=s.cars/\Below w.heap.size w w'
theorem xw(w:World)(q:Nat)(u0 u1 u2 u3 u4 u5 u6 u7:Value):But (fun k=>k=q) w ((((((((w.setCell ⟨q,0,none⟩ u0).setCell ⟨q,1,none⟩ u1).setCell ⟨q,2,none⟩ u2).setCell ⟨q,3,none⟩ u3).setCell ⟨q,4,none⟩ u4).setCell ⟨q,5,none⟩ u5).setCell ⟨q,6,none⟩ u6).setCell ⟨q,7,none⟩ u7):=
 ((((((((But.refl (fun k=>k=q) w).set (a:=⟨q,0,none⟩) (.inl rfl) _).set (a:=⟨q,1,none⟩) (.inl rfl) _).set (a:=⟨q,2,none⟩) (.inl rfl) _).set (a:=⟨q,3,none⟩) (.inl rfl) _).set (a:=⟨q,4,none⟩) (.inl rfl) _).set (a:=⟨q,5,none⟩) (.inl rfl) _).set (a:=⟨q,6,none⟩) (.inl rfl) _).set (a:=⟨q,7,none⟩) (.inl rfl) _
theorem Bs.set1{w W:World}{L:List (Nat×List Value)}{q:Nat}{l:List Value}(h:Bs w W ((q,l)::L))(i:Nat)(u:Value)(hne:∀ p∈L,p.1≠q):Bs w (W.setCell ⟨q,i,none⟩ u) ((q,l.set i u)::L):=by
 refine⟨h.b.setCell (p:=⟨q,i,none⟩) (h.l (q,l) (by simp)).1 u,fun p hp=>?_⟩;rcases List.mem_cons.1 hp with rfl|hp
 ·have:=h.l (q,l) (by simp);exact⟨this.1,by simpa using this.2.1,this.2.2.set i u⟩
 ·have:=h.l p (by simp[hp]);exact⟨this.1,by simpa using this.2.1,this.2.2.setOther (fun e=>hne p hp e.symm) _⟩
theorem Hh(s:Sc)(hs:s.ok)(hf:s.fl<=20)(hh:s.hor<=300)(wA:Option Addr)(wn wc:Nat)(ws:List Int)(w:World)(hw:HB.Rd w w.heap.size 1 wA wn (ws.map (Value.int .u32))/\ws.length=wn)(hwn:wn<=600)(hwx:∀ x∈ws,0<=x/\x<=4294967295)
  (ht:Tab w)(hD:5<w.heap.size)(hrp:RepOK w)(m:Nat)(hm:s.bins=(m:Int))(a n:Nat)(hr:Run (s.segs.map qF) ws (qw (s.segs.map qF) s.hor) 0 0 0 (some (a,n))):
  Calls prog 58 #[.string (qU s),.slice wA wn wc,.bool true] w (cg s m a n w):=by
 have HPT:=ze (fun W=>G3 s hs W);have HLI:=ze (fun(sA:Option Addr)(sn sk:Nat) W(hb:Below w.heap.size w W)(hg:Sgs W W.heap.size sA sn s.segs)=>Vg s hs hf (by omega) sA sn sk wA wn wc ws W hg ⟨(hw.1.below hb).mono hb.size,hw.2⟩ (by omega) hwx);have HT:=ze ht;have HRP:=ze hrp;have HMM:=ze hm;clear hw ht hrp hm;go_enter func58,ntmps58;go_upto_region 2 with(go_at_call 78;(with_reducible refine(HPT.o _).mono ?_);rintro r w1 ⟨sA,sn,sk,rfl,hsk,hg,hb1⟩;have HG:=ze hg;have HB1:=ze hb1;clear hg hb1);have HB0:=ze ((((Bs.one w qZ 44).step HB1.o).new rfl (s.ls sA sn sk) 25).new (q:=w1.heap.size+1) (by simp) [O J 0,O J 0,O J 0] 38);have HG1:=ze ((HG.o.below (show Below w1.heap.size w1 ((w1.alloc (.cells (s.ls sA sn sk).toArray 25)).alloc (.cells [O J 0,O J 0,O J 0].toArray 38))from by go_grown)).mono (B':=((w1.alloc (.cells (s.ls sA sn sk).toArray 25)).alloc (.cells [O J 0,O J 0,O J 0].toArray 38)).heap.size) (by simp;omega));have hw1:w.heap.size<w1.heap.size:=by have:=HB1.o.size;simp at this;omega
 refine zq (w:=w) (fun V=>Bs w V [(w1.heap.size+1,[O J 0,O J 0,O J 0]),(w1.heap.size,s.ls sA sn sk),(w.heap.size,qZ)]/\Sgs V V.heap.size sA sn s.segs) ⟨HB0.o,HG1.o⟩ HB0.o.b ?_;clear HG HB1 HB0 HG1 HPT;generalize w1.heap.size=k1 at*;rintro V ⟨hbs,hg⟩ hbV;have HBS:=ze hbs;have HG:=ze hg;obtain⟨⟨a0,a1,a2,a3,a4,a5,a6,a7,a8,a9,a10,a11,a12⟩,-⟩:=(hbs.cell (q:=k1) (l:=s.ls sA sn sk) (by simp)).o13;obtain⟨⟨b0,b1,b2⟩,-⟩:=(hbs.cell (q:=k1+1) (l:=[O J 0,O J 0,O J 0]) (by simp)).o3;have HL1:=ze (HLI.o sA sn sk V hbV hg);have HRUN:=ze hr;clear hbs hg hbV HLI hr;go_upto_region 5 with(fail);clear a0 a1 a2 a3 a4 a5 a6 a7 a8 a9 a10 a11 a12 b0 b1 b2;refine HL1.o.mono ?_;clear HL1;rintro r w3 ⟨hb3,rr,hrun,hcs⟩;obtain rfl:=HRUN.o.one hrun;rcases hcs with⟨h0,-⟩|⟨pA,pc,a',P,h0,rfl,hrd,hpc,hfo,hPa,haw⟩
 ·cases h0
 ·have hae:a=a'/\n=P.length:=by injection h0 with h0;injection h0 with h1 h2;exact⟨h1,h2⟩
  obtain⟨rfl,rfl⟩:=hae;have HBS3:=ze (HBS.o.step hb3);have HG3:=ze ((HG.o.below hb3).mono hb3.size);have HRD:=ze hrd;have HPA:=ze (hfo.pas hs (by unfold qw;omega));clear hrun h0 hrd hfo HBS HG hb3 HRUN;go_upto_region 7 with(fail);have HB4:=ze (HBS3.o.new (q:=w3.heap.size) rfl [.slice wA wn wc,O J a] 32);refine zq (w:=w) (fun V=>Bs w V [(w3.heap.size,[.slice wA wn wc,O J a]),(k1+1,[O J 0,O J 0,O J 0]),(k1,s.ls sA sn sk),(w.heap.size,qZ)]/\Sgs V V.heap.size sA sn s.segs/\HB.Rd V V.heap.size 4 pA P.length (P.flatMap Wl)) ⟨HB4.o,(HG3.o.below (by go_grown)).mono (by simp),(HRD.o.below (by go_grown)).mono (by simp)⟩ HB4.o.b ?_;clear HBS3 HG3 HRD HB4;generalize w3.heap.size=k2 at*;rintro V4 ⟨hbs,hg,hrd⟩ hbV;have HBS:=ze hbs;have HG:=ze hg;have HBV:=ze hbV;obtain⟨⟨a0,a1,a2,a3,a4,a5,a6,a7,a8,a9,a10,a11,a12⟩,-⟩:=(hbs.cell (q:=k1) (l:=s.ls sA sn sk) (by simp)).o13;have HSI:=ze (QA s hs sA sn sk pA P.length pc P V4 hrd ⟨rfl,hpc⟩ HPA.o hh (by omega) (HT.o.below hbV hD) (Nat.lt_of_lt_of_le hD hbV.size));clear hbs hg hbV hrd;go_upto_region 8 with(first
   |(go_at_call 79;(with_reducible refine HSI.o.mono ?_);rintro r w5 ⟨B,x,E,rfl,hE,hI,hT,hL,htr,hb5⟩;have HE:=ze hE;have HI:=ze hI;have HTE:=ze hT;have HLE:=ze hL;have HTR:=ze htr;have HB5:=ze hb5;clear hE hI hT hL htr hb5))
  have hyn:E.yn<=16:=by have h1:=HE.o.yl.1;have h2:=HI.o.yl;have h3:=HI.o.n;omega
  have hys:(E.yn:Int)=s.cars:=by have h1:=HE.o.yl.1;have h2:=HI.o.yl;have h3:=HLE.o;omega
  have htl:E.trips.length<=P.length:=by have:=HTR.o;omega
  have hbt:∀ b∈E.Y,b.t<=1000000:=fun b hb=>by
   obtain⟨i,hi⟩:=List.getElem?_of_mem hb;have hil:=(List.getElem?_eq_some_iff.1 hi).1;have hal:i<E.at_.length:=by have h1:=HI.o.inv.len;have h2:=HI.o.yl;omega
   have h3:=HI.o.tk i b _ hi (List.getElem?_eq_getElem hal);have h4:=HI.o.mx _ (List.getElem_mem hal);omega
  have hTP:=ze (show TripsP P.length E.trips from by
   have hinv:=HI.o.inv.inv;rw[HTE.o]at hinv;have hd:=hinv.done;refine⟨htl,hinv.ok (by omega),fun x hx=>?_,fun x hx=>?_⟩
   ·obtain⟨t,ht,rfl⟩:=List.mem_map.1 hx;have h5:=List.mem_filter.1 ht;have h6:=hd t h5.1 h5.2
    show 0<=t.bo-t.ar/\t.bo-t.ar<=1000
    omega
   ·obtain⟨t,ht,rfl⟩:=List.mem_map.1 hx;have h5:=List.mem_filter.1 ht;have h6:=hd t h5.1 h5.2
    show 0<=t.al-t.bo/\t.al-t.bo<=1000
    omega)
  have HLG:=ze (bD B s sA sn sk x E w5 HE.o hyn hbt (by omega));clear HE HI HTE HLE HTR HSI hbt;refine HLG.o.mono ?_;clear HLG;rintro r w6 ⟨tv,lA,lk,R,rfl,ho,hlg,hRl,hb6⟩;have hrl:=ho.row.lt;obtain⟨tA,tk,rfl,htk,htr⟩:=Own.trs ho;have HNB:=ze (show∀b off,tA=some ⟨b,off,none⟩->w.heap.size<b from fun b off e=>by subst e;have h1:=(hrl b rfl).1;have h2:=HBS.o.lt (q:=w.heap.size) (l:=qZ) (by simp);have h3:=HB5.o.size;omega);clear hrl;generalize E.trips=l at*;have hRs:(R.length:Int)=s.cars:=by rw[hRl];exact hys
  have HBS6:=ze ((HBS.o.step HB5.o).step hb6);have HG6:=ze ((((HG.o.below HB5.o).mono HB5.o.size).below hb6).mono hb6.size);have HTS:=ze htr;have HLG:=ze hlg;have HRL:=ze hRs;clear ho hlg htr hRl hys hyn hRs HBS HG HB5 hb6;go_upto_region 8 with(fail);have HB7:=ze (HBS6.o.new (q:=w6.heap.size) rfl [.slice tA l.length tk,.slice lA R.length lk,O J 0] 42);have hk26:k2<w6.heap.size:=HBS6.o.lt (q:=k2) (l:=[.slice wA wn wc,O J a]) (by simp);have hk16:k1+1<w6.heap.size:=HBS6.o.lt (q:=k1+1) (l:=[O J 0,O J 0,O J 0]) (by simp);have hbl7:Below w6.heap.size w6 (w6.alloc (.cells #[.slice tA l.length tk,.slice lA R.length lk,O J 0] 42)):=by go_grown
  refine zq (w:=w) (fun V=>Bs w V [(w6.heap.size,[.slice tA l.length tk,.slice lA R.length lk,O J 0]),(k2,[.slice wA wn wc,O J a]),(k1+1,[O J 0,O J 0,O J 0]),(k1,s.ls sA sn sk),(w.heap.size,qZ)]/\Sgs V w6.heap.size sA sn s.segs/\Trs V w6.heap.size tA l.length l/\Lgs V w6.heap.size lA R.length R) ⟨HB7.o,HG6.o.below hbl7,HTS.o.below hbl7,⟨HLG.o.rows.below hbl7,HLG.o.len,fun r hr=>⟨((HLG.o.at_ r hr).1.below hbl7),(HLG.o.at_ r hr).2⟩⟩⟩ HB7.o.b ?_;clear HBS6 HG6 HTS HLG HB7 hbl7;generalize w6.heap.size=k6 at*;rintro V7 ⟨hbs,hg,hts,hlg⟩ hbV;have HBS7:=ze hbs;have hbl8:Below k6 V7 (V7.setCell ⟨k6,2,none⟩ (O J a)):=(Below.refl k6 V7).setCell (p:=⟨k6,2,none⟩) fi _;have HB8:=ze (hbs.set1 2 (O J a) (fun p hp=>by simp only[List.mem_cons,List.not_mem_nil,or_false]at hp;rcases hp with rfl|rfl|rfl|rfl<;>simp only<;>omega));have HG8:=ze (hg.below hbl8);have HT8:=ze (hts.below hbl8);have HL8:=ze (show Lgs (V7.setCell ⟨k6,2,none⟩ (O J a)) k6 lA R.length R from⟨hlg.rows.below hbl8,hlg.len,fun r hr=>⟨((hlg.at_ r hr).1.below hbl8),(hlg.at_ r hr).2⟩⟩);obtain⟨⟨b0,b1,b2⟩,-,-,f2⟩:=(hbs.cell (q:=k6) (l:=[.slice tA l.length tk,.slice lA R.length lk,O J 0]) (by simp)).o3;obtain⟨⟨d0,d1⟩,-⟩:=(hbs.cell (q:=k2) (l:=[.slice wA wn wc,O J a]) (by simp)).o2;clear hbs hg hts hlg hbV hbl8;go_upto_region 9 with(fail);refine zq (w:=w) (fun V=>Bs w V [(k6,[.slice tA l.length tk,.slice lA R.length lk,O J a]),(k2,[.slice wA wn wc,O J a]),(k1+1,[O J 0,O J 0,O J 0]),(k1,s.ls sA sn sk),(w.heap.size,qZ)]/\Sgs V k6 sA sn s.segs/\Trs V k6 tA l.length l/\Lgs V k6 lA R.length R) ⟨HB8.o,HG8.o,HT8.o,HL8.o⟩ HB8.o.b ?_;clear HBS7 HB8 HG8 HT8 HL8 b0 b1 b2 d0 d1 f2;rintro V8 ⟨hbs,hg,hts,hlg⟩ hbV;have HBS:=ze hbs;have HTS:=ze hts;have HBV:=ze hbV;obtain⟨⟨a0,a1,a2,a3,a4,a5,a6,a7,a8,a9,a10,a11,a12⟩,-⟩:=(hbs.cell (q:=k1) (l:=s.ls sA sn sk) (by simp)).o13;obtain⟨⟨b0,b1,b2⟩,-⟩:=(hbs.cell (q:=k6) (l:=[.slice tA l.length tk,.slice lA R.length lk,O J a]) (by simp)).o3;have hk6:k6<V8.heap.size:=hbs.lt (q:=k6) (l:=[.slice tA l.length tk,.slice lA R.length lk,O J a]) (by simp);have hln:l.length<=600:=by have:=hTP.o.n;omega
  have hwl:(waits l).length<=1000:=by unfold waits;rw[List.length_map];have:=List.length_filter_le dn l;omega
  have htl:(zj l).length<=1000:=by unfold zj;rw[List.length_map];have:=List.length_filter_le dn l;omega
  have hbin:=hs.bins;have hwid:=hs.width;have hcar:=hs.cars;have HRT:=ze ((Gq s hs sA sn sk tA l.length tk l lA R.length lk R a V8 (hg.mono (Nat.le_of_lt hk6)) (hts.mono (Nat.le_of_lt hk6)) (by omega) hTP.o.ok ⟨hlg.rows.mono (Nat.le_of_lt hk6),hlg.len,fun r hr=>⟨((hlg.at_ r hr).1.mono (Nat.le_of_lt hk6)),(hlg.at_ r hr).2⟩⟩ (by have:=HRL.o;omega) ⟨by omega,by omega⟩ hwl (fun x hx=>by have:=hTP.o.wt x hx;omega) htl (fun x hx=>by have:=hTP.o.tr x hx;omega)
   (fun x hx=>zQ (by have:=hTP.o.wt x hx;omega) (by have:=hTP.o.wt x hx;omega)) (fun x hx=>zQ (by have:=hTP.o.tr x hx;omega) (by have:=hTP.o.tr x hx;omega)) (HRP.o.below hbV) (ba V8) (by have:=Ku s hs;show(zV (qT s)).toArray.size<=_;rw[List.size_toArray];omega) m HMM.o (by unfold eZ;rw[decide_eq_true_eq];have:=HMM.o;omega)).mono (R':=fun e w'=>(∃t,e=.returned (.tuple #[.string t,O J 0])/\YD s m l t)/\Below V8.heap.size V8 w') (fun e w'⟨⟨x,y,w9,he,hl9⟩,hb⟩=>⟨⟨_,he,x,y,w9,rfl,hl9⟩,hb⟩))
  clear hbs hg hts hlg hbV hwl htl;go_upto_region 10 with(go_at_call 80;(with_reducible refine HRT.o.mono ?_);rintro r w9 ⟨⟨t,rfl,hxp⟩,hb9⟩;have HXP:=ze hxp;have HB9:=ze hb9;clear hxp hb9);have hbs9:=HBS.o.step HB9.o;have HTS9:=ze ((HTS.o.below (HB9.o.mono (Nat.le_of_lt hk6))).mono (Nat.le_trans (Nat.le_of_lt hk6) HB9.o.size));have HBL:=ze hbs9.b;obtain⟨⟨c0,c1,c2⟩,-⟩:=(hbs9.cell (q:=k6) (l:=[.slice tA l.length tk,.slice lA R.length lk,O J a]) (by simp)).o3;have hz:=hbs9.cell (q:=w.heap.size) (l:=qZ) (by simp);have z0:=(hz 0 _ rfl).1;have z1:=(hz 1 _ rfl).1;have z2:=(hz 2 _ rfl).1;have z3:=(hz 3 _ rfl).1;have z4:=(hz 4 _ rfl).1;have z5:=(hz 5 _ rfl).1;have z6:=(hz 6 _ rfl).1;have z7:=(hz 7 _ rfl).1;have y0:=(hz 0 _ rfl).2;have y1:=(hz 1 _ rfl).2;have y2:=(hz 2 _ rfl).2;have y3:=(hz 3 _ rfl).2;have y4:=(hz 4 _ rfl).2;have y5:=(hz 5 _ rfl).2;have y6:=(hz 6 _ rfl).2;have y7:=(hz 7 _ rfl).2;clear hbs9 hz HBS HTS b0 b1 b2 a0 a1 a2 a3 a4 a5 a6 a7 a8 a9 a10 a11 a12 HRT;go_wp2_with fail;refine bodyPost_ret (v:=UT t tA l.length tk lA R.length lk a) (by rw[zi rfl];go_simp) rfl ?_;have hkb:=xw w9 w.heap.size (O J 0) (O J 0) (O J 0) (O J 0) (.string t) (.slice tA l.length tk) (.slice lA R.length lk) (O J a);refine⟨t,tA,tk,lA,R.length,lk,l,rfl,HXP.o,⟨(xu HTS9.o.1 fi hkb (fun b off e e2=>by have:=HNB.o b off e;have e3:b=w.heap.size:=e2;omega)).mono hkb.size,HTS9.o.2⟩,fun b off e=>Nat.le_of_lt (HNB.o b off e),hTP.o,HRL.o,?_⟩;exact HBL.o.trans (hkb.below (fun k hk=>by have e:k=w.heap.size:=hk;omega) HBL.o.size)
theorem Hi(s:Sc)(hs:s.ok)(hf:s.fl<=20)(hh:s.hor<=300)(wA:Option Addr)(wn wc:Nat)(ws:List Int)(w:World)(hw:HB.Rd w w.heap.size 1 wA wn (ws.map (Value.int .u32))/\ws.length=wn)(hwn:wn<=600)(hwx:∀ x∈ws,0<=x/\x<=4294967295)
  (ht:Tab w)(hD:5<w.heap.size)(hrp:RepOK w)(m:Nat)(hm:s.bins=(m:Int))(a n:Nat)(hr:Run (s.segs.map qF) ws (qw (s.segs.map qF) s.hor) 0 0 0 (some (a,n))):
  Calls prog 30 #[.string (qU s),.slice wA wn wc] w (cg s m a n w):=by
 have HPL:=ze (fun W(hb:Below w.heap.size w W)=>Hh s hs hf hh wA wn wc ws W ⟨(hw.1.below hb).mono hb.size,hw.2⟩ hwn hwx (ht.below hb hD) (Nat.lt_of_lt_of_le hD hb.size) (hrp.below hb) m hm a n hr);clear hw ht hrp hr hm;have hb0:Below w.heap.size w (w.alloc (.cells #[O J 0,O J 0,O J 0,O J 0,.string ⟨#[]⟩,.slice none 0 0,.slice none 0 0,O J 0] 44)):=by go_grown
 have HP:=ze (HPL.o _ hb0);clear HPL hb0;go_enter func30,ntmps30;go_upto_region 1 with(fail);have hs0:(w.alloc (.cells #[O J 0,O J 0,O J 0,O J 0,.string ⟨#[]⟩,.slice none 0 0,.slice none 0 0,O J 0] 44)).heap.size=w.heap.size+1:=by simp
 have HZ:=ze (Bx.new w qZ 44);have hb0:Below w.heap.size w (w.alloc (.cells #[O J 0,O J 0,O J 0,O J 0,.string ⟨#[]⟩,.slice none 0 0,.slice none 0 0,O J 0] 44)):=by go_grown
 have HB0:=ze hb0;have HS0:=ze hs0;clear hs0 hb0;go_wp2_with(go_at_call 58;(with_reducible refine HP.o.mono ?_);rintro r w1 ⟨t,tA,tk,lA,ln,lk,l,rfl,hx,ht,hnb,htp,hln,hb1⟩;have HX:=ze hx;have HT:=ze ht;have HNB:=ze hnb;have HTP:=ze htp;have HB1:=ze hb1;have HLN:=ze hln;have hz:=HZ.o.below hb1 (by simp);have z0:=(hz 0 _ rfl).1;have z1:=(hz 1 _ rfl).1;have z2:=(hz 2 _ rfl).1;have z3:=(hz 3 _ rfl).1;have z4:=(hz 4 _ rfl).1;have z5:=(hz 5 _ rfl).1;have z6:=(hz 6 _ rfl).1;have z7:=(hz 7 _ rfl).1;have y0:=(hz 0 _ rfl).2;have y1:=(hz 1 _ rfl).2;have y2:=(hz 2 _ rfl).2;have y3:=(hz 3 _ rfl).2;have y4:=(hz 4 _ rfl).2;have y5:=(hz 5 _ rfl).2;have y6:=(hz 6 _ rfl).2;have y7:=(hz 7 _ rfl).2;clear hx ht hnb htp hln hb1 hz);refine bodyPost_ret (v:=UT t tA l.length tk lA ln lk a) (by rw[zi rfl];go_simp) rfl ?_;have hkb:=xw w1 w.heap.size (O J 0) (O J 0) (O J 0) (O J 0) (.string t) (.slice tA l.length tk) (.slice lA ln lk) (O J a);have hnb2:∀ b off,tA=some ⟨b,off,none⟩->w.heap.size<b:=fun b off e=>by have:=HNB.o b off e;rw[HS0.o]at this;omega
 refine⟨t,tA,tk,lA,ln,lk,l,rfl,HX.o,⟨(xu HT.o.1 fi hkb (fun b off e e2=>by have:=hnb2 b off e;have e3:b=w.heap.size:=e2;omega)).mono hkb.size,HT.o.2⟩,fun b off e=>Nat.le_of_lt (hnb2 b off e),HTP.o,HLN.o,?_⟩;have hb1:=HB0.o.trans (HB1.o.mono (by rw[HS0.o];omega));exact hb1.trans (hkb.below (fun k hk=>by have e:k=w.heap.size:=hk;omega) hb1.size)
end
section
open List renaming setIfInBounds_toArray->s0q,set_cons_zero->s1q,set_cons_succ->s2q
open Go.RowKit HB Go.Maps CalP HeapP DigP HistP ArrP
def XQ(s:Sc):Prop:=s.ok/\s.fl<=20/\s.hor<=300
def Hn(P:Prop)(w:World)(e:Ending)(w':World):Prop:=∃ b:Bool,e=.returned (.bool b)/\(b=true->P)/\Below w.heap.size w w'
theorem UW(s:Sc)(A:Option Addr)(n c:Nat)(w:World)(hg:Sgs w w.heap.size A n s.segs):Calls prog 22 #[s.v A n c] w (Hn (XQ s) w):=by
 have HB0:=ze (Bs.one w (s.ls A n c) 25);by_cases hn:8<n
 ·have e1:decide ((n:Int)<=8)=false:=by simp;omega
  clear hg;go_enter func22,ntmps22;go_wp2_with fail;go_ret;exact⟨false,rfl,(fun h=>by cases h),HB0.o.b⟩
 ·have e1:decide ((n:Int)<=8)=true:=by simp;omega
  have HC:=ze (fun W(hb:Below w.heap.size w W)=>UV s A n c W ((hg.below hb).mono hb.size) (by omega));clear hg;go_enter func22,ntmps22;go_wp2_with fail;refine(HC.o _ HB0.o.b).mono ?_;rintro r w1 ⟨z,rfl,hz,hb1⟩;have HZ:=ze hz;have HB1:=ze (HB0.o.step hb1);obtain⟨⟨a0,a1,a2,a3,a4,a5,a6,a7,a8,a9,a10,a11,a12⟩,-⟩:=(HB1.o.cell (q:=w.heap.size) (l:=s.ls A n c) (by simp)).o13;clear hz hb1 HB0 a1 a2 a3 a4 a5 a6 a7 a8 a9 a11 a12;by_cases hz0:z=0
  ·have e2:(z==0)=true:=by simpa using hz0
   by_cases hf:s.fl<=20
   ·have e3:decide (s.fl<=20)=true:=by simpa using hf
    by_cases hh:s.hor<=300
    ·have e4:decide (s.hor<=300)=true:=by simpa using hh
     have HF:=ze (show XQ s from⟨HZ.o hz0,hf,hh⟩);clear hz0 hf hh;go_wp2_with fail;go_ret;exact⟨true,rfl,fun _=>HF.o,HB1.o.b⟩
    ·have e4:decide (s.hor<=300)=false:=by simpa using hh
     clear hz0 hf hh;go_wp2_with fail;go_ret;exact⟨false,rfl,(fun h=>by cases h),HB1.o.b⟩
   ·have e3:decide (s.fl<=20)=false:=by simpa using hf
    clear hz0 hf;go_wp2_with fail;go_ret;exact⟨false,rfl,(fun h=>by cases h),HB1.o.b⟩
  ·have e2:(z==0)=false:=by simpa using hz0
   clear hz0;go_wp2_with fail;go_ret;exact⟨false,rfl,(fun h=>by cases h),HB1.o.b⟩
def dS(s:Sc)(wn:Nat)(ws:List Int):Prop:=XQ s/\wn<=600/\∃ a n,Run (s.segs.map qF) ws (qw (s.segs.map qF) s.hor) 0 0 0 (some (a,n))
theorem bQ(s:Sc)(A:Option Addr)(n c:Nat)(wA:Option Addr)(wn wc:Nat)(ws:List Int)(w:World)(hg:Sgs w w.heap.size A n s.segs)(hw:HB.Rd w w.heap.size 1 wA wn (ws.map (Value.int .u32))/\ws.length=wn)(hwx:∀ x∈ws,0<=x/\x<=4294967295):
  Calls prog 5 #[s.v A n c,.slice wA wn wc] w (Hn (dS s wn ws) w):=by
 have HB0:=ze (Bs.one w (s.ls A n c) 25);have HS:=ze (fun W(hb:Below w.heap.size w W)=>UW s A n c W ((hg.below hb).mono hb.size));have HG:=ze hg;have HW:=ze hw;obtain⟨⟨a0,a1,a2,a3,a4,a5,a6,a7,a8,a9,a10,a11,a12⟩,-⟩:=(HB0.o.cell (q:=w.heap.size) (l:=s.ls A n c) (by simp)).o13;clear hg hw a0 a1 a2 a3 a4 a5 a6 a7 a8 a9 a10 a11 a12;go_enter func5,ntmps5;go_wp2_with fail;refine(HS.o _ HB0.o.b).mono ?_;rintro r w1 ⟨b,rfl,hP,hb1⟩;have HP:=ze hP;have HB1:=ze (HB0.o.step hb1);clear hP hb1 HS HB0;cases b with
 |false=>
  go_wp2_with fail;go_ret;exact⟨false,rfl,(fun h=>by cases h),HB1.o.b⟩
 |true=>
  by_cases hn:600<wn
  ·have e1:decide ((600:Int)<wn)=true:=by simp;omega
   go_wp2_with fail;go_ret;exact⟨false,rfl,(fun h=>by cases h),HB1.o.b⟩
  ·have e1:decide ((600:Int)<wn)=false:=by simp;omega
   obtain⟨hs,hf,hh⟩:=HP.o rfl;have HL:=ze (fun W(hb:Below w.heap.size w W)=>Vg s hs hf (by omega) A n c wA wn wc ws W ((HG.o.below hb).mono hb.size) ⟨(HW.o.1.below hb).mono hb.size,HW.o.2⟩ (by omega) hwx);obtain⟨⟨a0,a1,a2,a3,a4,a5,a6,a7,a8,a9,a10,a11,a12⟩,-⟩:=(HB1.o.cell (q:=w.heap.size) (l:=s.ls A n c) (by simp)).o13;have hzw:=HB1.o.lt (q:=w.heap.size) (l:=s.ls A n c) (by simp);go_wp2_with fail;refine(HL.o _ HB1.o.b).mono ?_;rintro r w3 ⟨hb3,rr,hrun,hcs⟩;have HRUN:=ze hrun;have HB3:=ze (HB1.o.step hb3);clear hrun hb3 HL;rcases hcs with⟨-,rfl⟩|⟨pA,pc,a',P,rfl,rfl,-⟩
   ·go_wp2_with fail;go_ret;exact⟨false,rfl,(fun h=>by cases h),(HB3.o.step ((Below.refl _ w3).alloc fi _)).b⟩
   ·have HF:=ze (show dS s wn ws from⟨⟨hs,hf,hh⟩,by omega,_,_,HRUN.o⟩);go_wp2_with fail;go_ret;exact⟨true,rfl,fun _=>HF.o,(HB3.o.step ((Below.refl _ w3).alloc fi _)).b⟩
theorem Hr(t:ByteArray)(tA:Option Addr)(tn tk:Nat)(lA:Option Addr)(ln lk:Nat)(u:Int)(w:World):Calls prog 31 #[UT t tA tn tk lA ln lk u] w (fk (O J 2) w):=by
 go_enter func31,ntmps31;go_wp2_with fail;go_ret;exact⟨rfl,by go_grown⟩
def zH(k t:Int):Sc:=⟨4,1,1,2,1,1,1,1,1,50,2,5,[⟨2,t,k⟩]⟩
theorem UX(k t:Int)(w:World):Calls prog 24 #[O J k,O J t] w fun e w'=>(∃A c,e=.returned ((zH k t).v A 1 c)/\Sgs w' w'.heap.size A 1 (zH k t).segs)/\Below w.heap.size w w':=by
 go_enter func24,ntmps24;go_wp2_with fail;refine bodyPost_ret (v:=(zH k t).v (some ⟨w.heap.size+1,0,none⟩) 1 1) (by rw[zi rfl];go_simp;exact⟨rfl,rfl,rfl,rfl,rfl,rfl,rfl,rfl,rfl,rfl,rfl,rfl⟩) rfl ?_;have h:=Rd.new (w.alloc (.cells #[O J 4,O J 1,O J 1,O J 2,O J 1,O J 1,O J 1,O J 1,.slice (some ⟨w.heap.size+1,0,none⟩) 1 1,O J 1,O J 50,O J 2,O J 5] 25)) 68 (xs:=YL ⟨2,t,k⟩) (n:=1) (sz:=3) rfl;rw[World.size_alloc]at h;exact⟨⟨_,1,rfl,h.mono (by simp),rfl⟩,by go_grown⟩
theorem Ht(t:Int)(ht:1<=t/\t<=1000):(zH 0 t).ok:=by
 have hseg:∀ g∈(zH 0 t).segs,g.ok:=fun g hg=>by
  have e:g=⟨2,t,0⟩:=by simpa[zH]using hg
  subst e;exact⟨⟨by show(1:Int)<=2;omega,by show(2:Int)<=4;omega⟩,⟨by show 1<=t;omega,by show t<=1048576;omega⟩,⟨by show(0:Int)<=0;omega,by show(0:Int)<=4000;omega⟩⟩
 refine⟨?_,?_,?_,?_,?_,?_,?_,?_,?_,?_,?_,?_,?_,hseg⟩<;>simp[zH]
theorem XR:Run ((zH 0 9).segs.map qF) [] (qw ((zH 0 9).segs.map qF) (zH 0 9).hor) 0 0 0 (some (0,0)):=by
 have e:qw ((zH 0 9).segs.map qF) (zH 0 9).hor=9:=by decide
 rw[e];have key:∀ k t:Nat,k+t=9->Run ((zH 0 9).segs.map qF) [] k t 0 0 (some (0,0)):=by
  intro k
  induction k with
  |zero=>intro t _;exact Run.done _ _ _
  |succ k ih=>
   intro t ht;refine Run.quiet k t 0 0 0 (2,9,0) _ (.inl ⟨rfl,0,by decide,rfl,by simp[WhenP.upto,WhenP.tot],?_⟩) rfl rfl (ih (t+1) (by omega))
   show(t:Int)<9
   omega
 exact key 9 0 rfl
def bR(s:Sc)(m a n:Nat)(w:World)(e:Ending)(w':World):Prop:=
 ∃(t:ByteArray)(tA:Option Addr)(tk:Nat)(lA:Option Addr)(ln lk:Nat)(l:List Tr),e=.returned (.tuple #[UT t tA l.length tk lA ln lk a,.bool true])/\YD s m l t/\Trs w' w'.heap.size tA l.length l/\TripsP n l/\(ln:Int)=s.cars/\Below w.heap.size w w'
theorem Hu{t:ByteArray}(h:t≠⟨#[]⟩):(t==(⟨#[]⟩:ByteArray))=false:=by
 rcases t with⟨d⟩
 show(d== #[])=false
 rw[Bool.eq_false_iff];intro h2;exact h (by simpa using h2)
theorem bS{s:Sc}{m:Nat}{l:List Tr}{t:ByteArray}(h:YD s m l t):t≠⟨#[]⟩:=by
 obtain⟨x,y,ws,rfl,-⟩:=h;intro h0;have h1:=congrArg (fun z:ByteArray=>z.data.toList.length) h0;simp[Lib.join,List.intercalate,List.intersperse]at h1
theorem Zk(s:Sc)(hs:s.ok)(hf:s.fl<=20)(hh:s.hor<=300)(A:Option Addr)(sn sk:Nat)(wA:Option Addr)(wn wc:Nat)(ws:List Int)(w:World)(hg:Sgs w w.heap.size A sn s.segs)(hw:HB.Rd w w.heap.size 1 wA wn (ws.map (Value.int .u32))/\ws.length=wn)(hwn:wn<=600)(hwx:∀ x∈ws,0<=x/\x<=4294967295)
  (ht:Tab w)(hD:5<w.heap.size)(hrp:RepOK w)(m:Nat)(hm:s.bins=(m:Int))(a n:Nat)(hr:Run (s.segs.map qF) ws (qw (s.segs.map qF) s.hor) 0 0 0 (some (a,n))):
  Calls prog 10 #[s.v A sn sk,.slice wA wn wc] w (bR s m a n w):=by
 have HPL:=ze (fun W(hb:Below w.heap.size w W)=>Hi s hs hf hh wA wn wc ws W ⟨(hw.1.below hb).mono hb.size,hw.2⟩ hwn hwx (ht.below hb hD) (Nat.lt_of_lt_of_le hD hb.size) (hrp.below hb) m hm a n hr);have HSH:=ze (fun W(hb:Below w.heap.size w W)=>Je s hs A sn sk w.heap.size W (hg.below hb) hb.size);have HB0:=ze (Bs.two w (s.ls A sn sk) qZ 25 44);clear hw ht hrp hr hm hg;go_enter func10,ntmps10;go_upto_region 4 with(go_at_call 29;(with_reducible refine(HSH.o _ HB0.o.b).mono ?_);rintro r w1 ⟨rfl,hb1⟩;have HB1:=ze (HB0.o.step hb1);clear hb1);have HPL1:=ze (HPL.o _ HB1.o.b);clear HPL HSH HB0;go_upto_region 5 with(go_at_call 30;(with_reducible refine HPL1.o.mono ?_);rintro r w2 ⟨t,tA,tk,lA,ln,lk,l,rfl,hx,hts,hnb,htp,hln,hb2⟩;have HX:=ze hx;have HT2:=ze hts;have HNB1:=ze hnb;have HTP:=ze htp;have HLN:=ze hln;have HB2:=ze (HB1.o.step hb2);clear hx hts hnb htp hln hb2);have HB3:=ze (HB2.o.new (q:=w2.heap.size) rfl (ZM t tA l.length tk lA ln lk a) 44);have hk0:w.heap.size+1<w1.heap.size:=HB1.o.lt (q:=w.heap.size+1) (l:=qZ) (by simp);have hk1:w.heap.size+1<w2.heap.size:=HB2.o.lt (q:=w.heap.size+1) (l:=qZ) (by simp);have HNB:=ze (show∀b off,tA=some ⟨b,off,none⟩->w.heap.size+1<b from fun b off e=>by have:=HNB1.o b off e;omega);refine zq (w:=w) (fun V=>Bs w V [(w2.heap.size,ZM t tA l.length tk lA ln lk a),(w.heap.size+1,qZ),(w.heap.size,s.ls A sn sk)]/\Trs V w2.heap.size tA l.length l) ⟨HB3.o,HT2.o.below (by go_grown)⟩ HB3.o.b ?_;clear HB1 HB2 HB3 HT2 HNB1 HPL1 hk0;generalize w2.heap.size=k2 at*;rintro V ⟨hbs,hts⟩ hbV;have HBS:=ze hbs;have HTS:=ze hts;have HTN:=ze (bS HX.o);have etn:(t==(⟨#[]⟩:ByteArray))=false:=Hu HTN.o;have hk2:k2<V.heap.size:=hbs.lt (q:=k2) (l:=ZM t tA l.length tk lA ln lk a) (by simp);have hk3:w.heap.size+1<=V.heap.size:=by omega
 have hc:=hbs.cell (q:=k2) (l:=ZM t tA l.length tk lA ln lk a) (by simp);have c0:=(hc 0 _ rfl).1;have c1:=(hc 1 _ rfl).1;have c2:=(hc 2 _ rfl).1;have c3:=(hc 3 _ rfl).1;have c4:=(hc 4 _ rfl).1;have c5:=(hc 5 _ rfl).1;have c6:=(hc 6 _ rfl).1;have c7:=(hc 7 _ rfl).1;have MK:=ze (fun U(hb:Below V.heap.size V U)=>(show U.cell? ⟨k2,0,none⟩=some (O J 0)/\U.cell? ⟨k2,1,none⟩=some (O J 0)/\U.cell? ⟨k2,2,none⟩=some (O J 0)/\U.cell? ⟨k2,3,none⟩=some (O J 0)/\U.cell? ⟨k2,4,none⟩=some (.string t)/\U.cell? ⟨k2,5,none⟩=some (.slice tA l.length tk)/\U.cell? ⟨k2,6,none⟩=some (.slice lA ln lk)/\U.cell? ⟨k2,7,none⟩=some (O J a)/\Below (w.heap.size+1) V U from⟨zf hb c0,zf hb c1,zf hb c2,zf hb c3,zf hb c4,zf hb c5,zf hb c6,zf hb c7,hb.mono hk3⟩));clear hbs hts hbV hc;refine wp_region_held_drew (S:=(fun U=>U.cell? ⟨k2,0,none⟩=some (O J 0)/\U.cell? ⟨k2,1,none⟩=some (O J 0)/\U.cell? ⟨k2,2,none⟩=some (O J 0)/\U.cell? ⟨k2,3,none⟩=some (O J 0)/\U.cell? ⟨k2,4,none⟩=some (.string t)/\U.cell? ⟨k2,5,none⟩=some (.slice tA l.length tk)/\U.cell? ⟨k2,6,none⟩=some (.slice lA ln lk)/\U.cell? ⟨k2,7,none⟩=some (O J a)/\Below (w.heap.size+1) V U)) (by kernel_rfl) ?_ (fun hHeld=>?_)
 ·exact MK.o _ fh.drew
 refine qK [0,1] (by simp[zl];rfl) (by kernel_rfl) (by assumption) ?_
 iterate 2 (refine qz (v:=?_) (fun _ _ _ h=>h) (by rfl) ?_ ?_;rotate_left;(next=>((intro w hSw;(try dsimp only at hSw);go_simp);(try with_reducible rfl)));try simp only[Act.put,s0q,s1q,s2q])
 refine qL ?_;refine jj [2] (by kernel_rfl) ?_;refine j6 (by simp[zl];rfl) rfl (fun K hK=>?_) AllReadyH.nil;go_simp;have hbH:Below V.heap.size V V.drew:=fh.drew;go_at_call 31;(with_reducible refine(Hr t tA l.length tk lA ln lk a _).mono ?_);rintro e w9 ⟨rfl,hb9⟩;have HB9:=ze (hbH.trans (hb9.mono hbH.size));have hz:=(HBS.o.step HB9.o).cell (q:=w.heap.size+1) (l:=qZ) (by simp);have z0:=(hz 0 _ rfl).1;have y0:=(hz 0 _ rfl).2;have z1:=(hz 1 _ rfl).1;have y1:=(hz 1 _ rfl).2;have z2:=(hz 2 _ rfl).1;have y2:=(hz 2 _ rfl).2;have z3:=(hz 3 _ rfl).1;have y3:=(hz 3 _ rfl).2;have z4:=(hz 4 _ rfl).1;have y4:=(hz 4 _ rfl).2;have z5:=(hz 5 _ rfl).1;have y5:=(hz 5 _ rfl).2;have z6:=(hz 6 _ rfl).1;have y6:=(hz 6 _ rfl).2;have z7:=(hz 7 _ rfl).1;have y7:=(hz 7 _ rfl).2;clear hb9 hbH hz
 refine hK.out _ _ ?_ (fun hHeld=>?_)
 ·exact MK.o _ HB9.o
 clear hK K
 try simp only[Act.put,s0q,s1q,s2q]
 refine qK [3,4,5,6,7,8] (by simp[zl];rfl) (by kernel_rfl) (by assumption) ?_
 iterate 6 (refine qz (v:=?_) (fun _ _ _ h=>h) (by rfl) ?_ ?_;rotate_left;(next=>((intro w hSw;(try dsimp only at hSw);go_simp);(try with_reducible rfl)));try simp only[Act.put,s0q,s1q,s2q])
 refine qL ?_;refine jj [9] (by kernel_rfl) ?_;refine j6 (by simp[zl];rfl) rfl (fun K hK=>?_) AllReadyH.nil;go_simp;refine hK.out _ _ ?_ (fun hHeld=>?_)
 ·have hkb:=xw w9 (w.heap.size+1) (O J 0) (O J 0) (O J 0) (O J 0) (.string t) (.slice tA l.length tk) (.slice lA ln lk) (O J a);have hkx:¬ (k2=w.heap.size+1):=(by omega);exact⟨hkb.cell (a:=⟨k2,0,none⟩) (zf HB9.o c0) hkx,hkb.cell (a:=⟨k2,1,none⟩) (zf HB9.o c1) hkx,hkb.cell (a:=⟨k2,2,none⟩) (zf HB9.o c2) hkx,hkb.cell (a:=⟨k2,3,none⟩) (zf HB9.o c3) hkx,hkb.cell (a:=⟨k2,4,none⟩) (zf HB9.o c4) hkx,hkb.cell (a:=⟨k2,5,none⟩) (zf HB9.o c5) hkx,hkb.cell (a:=⟨k2,6,none⟩) (zf HB9.o c6) hkx,hkb.cell (a:=⟨k2,7,none⟩) (zf HB9.o c7) hkx,((((((((HB9.o.mono hk3).setCell (p:=⟨w.heap.size+1,0,none⟩) fi _).setCell (p:=⟨w.heap.size+1,1,none⟩) fi _).setCell (p:=⟨w.heap.size+1,2,none⟩) fi _).setCell (p:=⟨w.heap.size+1,3,none⟩) fi _).setCell (p:=⟨w.heap.size+1,4,none⟩) fi _).setCell (p:=⟨w.heap.size+1,5,none⟩) fi _).setCell (p:=⟨w.heap.size+1,6,none⟩) fi _).setCell (p:=⟨w.heap.size+1,7,none⟩) fi _⟩
 clear hK K
 try simp only[Act.put,s0q,s1q,s2q]
 refine jj [10] (by kernel_rfl) ?_;refine j6 (by simp[zl];rfl) rfl (fun K hK=>?_) AllReadyH.nil;go_simp;refine hK.out _ _ ?_ (fun hHeld=>?_)
 ·exact hHeld
 clear hK K
 try simp only[Act.put,s0q,s1q,s2q]
 refine wpAnyH_done (by kernel_rfl) ?_ _;go_wp2_with fail;refine bodyPost_ret (v:=.tuple #[UT t tA l.length tk lA ln lk a,.bool true]) (by rw[zm rfl];go_simp;exact fun h=>HTN.o ((Lib.bytes_beq_iff t ⟨#[]⟩).1 (by rw[h];first|(go_simp;done)|(simp;done)))) rfl ?_;have hkb:=xw w9 (w.heap.size+1) (O J 0) (O J 0) (O J 0) (O J 0) (.string t) (.slice tA l.length tk) (.slice lA ln lk) (O J a);refine⟨t,tA,tk,lA,ln,lk,l,rfl,HX.o,⟨(xu (HTS.o.below (HB9.o.mono (Nat.le_of_lt hk2))).1 (Nat.le_trans (Nat.le_of_lt hk2) HB9.o.size) hkb (fun b off e e2=>by have:=HNB.o b off e;have e3:b=w.heap.size+1:=e2;omega)).mono (Nat.le_trans (Nat.le_trans (Nat.le_of_lt hk2) HB9.o.size) hkb.size),HTS.o.2⟩,HTP.o,HLN.o,?_⟩;have hb1:=(HBS.o.step HB9.o).b;exact hb1.trans (hkb.below (fun k hk=>by have e:k=w.heap.size+1:=hk;omega) hb1.size)
end
section
open Go.RowKit HB Go.Maps CalP HeapP DigP HistP ArrP
def Hv(w:World)(e:Ending)(w':World):Prop:=e=.returned (.bool true)/\Below w.heap.size w w'
theorem UY(w:World)(ht:Tab w)(hD:5<w.heap.size)(hrp:RepOK w):Calls prog 7 #[] w (Hv w):=by
 have HP:=ze (UX 0 9 w);have HPL:=ze (fun A c W(hg:Sgs W W.heap.size A 1 (zH 0 9).segs)(hb:Below w.heap.size w W)=>Zk (zH 0 9) (Ht 9 (by omega)) (by show(4:Int)<=20;omega) (by show(50:Int)<=300;omega) A 1 c none 0 0 [] W hg ⟨Rd.nil,rfl⟩ (by omega) (fun x hx=>by cases hx) (ht.below hb hD) (Nat.lt_of_lt_of_le hD hb.size) (hrp.below hb) 2 rfl 0 0 XR);clear ht hD hrp;go_enter func7,ntmps7;go_wp2_with fail;refine HP.o.mono ?_;rintro r w1 ⟨⟨A,c,rfl,hg⟩,hb1⟩;have HB1:=ze hb1;have HG:=ze hg;clear hg hb1;go_wp2_with fail;refine(HPL.o A c w1 HG.o HB1.o).mono ?_;rintro r w2 ⟨t,tA,tk,lA,ln,lk,l,rfl,-,-,htp,hln,hb2⟩;have hl0:l.length=0:=Nat.le_zero.1 htp.n;have hl1:ln=1:=by
  have e:(zH 0 9).cars=1:=rfl;omega
 subst hl1;rw[hl0];have HB2:=ze (HB1.o.trans (hb2.mono HB1.o.size));clear htp hln hb2 hl0 HPL HP;go_wp2_with fail;go_ret;have hz:=HB2.o.size;exact⟨rfl,HB2.o.trans (by go_grown)⟩
theorem aa{l:List WhenP.Seg}{ws:List Int}{k t a n:Nat}{r:Option (Nat×Nat)}(h:Run l ws k t a n r):∀(a' n':Nat),r=Option.some (a',n')->a<=ws.length->a'<=ws.length:=by
 induction h with
 |done t a n=>intro a' n' e ha;cases e;exact ha
 |quiet k t a n i g r hi hg h0 h ih=>exact ih
 |dry k t a n i g hi hg h0 h=>intro a' n' e;cases e
 |dry2 k t a n i g x m j hi hg h0 hx hm hj h=>intro a' n' e;cases e
 |some k t a n i g x m j r hi hg h0 hx hm hj hl h ih=>intro a' n' e _;exact ih a' n' e hl
theorem bU{l:List WhenP.Seg}{ws:List Int}{k t a n:Nat}(h:Run l ws k t 0 0 (some (a,n))):n<=ws.length:=by
 have h1:=aa h a n rfl (Nat.zero_le _);have h2:=h.le a n rfl;omega
theorem XZ(b w:Int)(ts:List Int)(h:ts.length<=600):∀ k,acc b w ts k<=k*600
 |0=>fi
 |k+1=>by
  have h1:=XZ b w ts h k;have h2:=List.length_filter_le (vz b w k) ts;rw[acc];omega
theorem Wc{w5:World}{base:Nat}{v:Value}{CL:List ByteArray}{X:List UInt8}{a b:Nat}(hown:HB.Own w5 base 9 1 dT v CL)(hmp:CL.map (·.data.toList)=[X,(jh a).data.toList,(jh b).data.toList]):
  ∃cb co Cc:Nat,v=.slice (some ⟨cb,co,none⟩) 3 Cc/\3<=Cc/\w5.cell? ⟨cb,co+1,none⟩=some (.string (jh a))/\w5.cell? ⟨cb,co+2,none⟩=some (.string (jh b)):=by
 have inj:∀{x y:ByteArray},x.data.toList=y.data.toList->x=y:=fun h=>ByteArray.ext (Array.toList_inj.1 h)
 obtain⟨y,c1,c2,rfl⟩:∃ y c1 c2,CL=[y,c1,c2]:=by
  have hlen:CL.length=3:=by have:=congrArg List.length hmp;simpa using this
  match CL,hlen with
  |[y,c1,c2],_=>exact⟨y,c1,c2,rfl⟩
 simp only[List.map_cons,List.map_nil,List.cons.injEq,and_true]at hmp;obtain⟨-,h1,h2⟩:=hmp;obtain rfl:=inj h1;obtain rfl:=inj h2;obtain⟨A,c,rfl,hc,hr⟩:=hown.shape;obtain⟨cb,co,rfl,-,hcell⟩:=hr.2 (by simp);exact⟨cb,co,c,rfl,hc,hcell 1 _ rfl,hcell 2 _ rfl⟩
theorem We(ws:List Int)(L:List (List ByteArray))(r:List ByteArray)(h:r∈L):(j7 ws r).length+1<=(zD ws L).length:=by
 induction L with
 |nil=>cases h
 |cons x L ih=>
  have e:(zD ws (x::L)).length=(j7 ws x).length+1+(zD ws L).length:=by
   unfold zD;rw[List.flatMap_cons,List.length_append,List.length_append];rfl
  rw[e];rcases List.mem_cons.1 h with rfl|h
  ·omega
  ·have:=ih h;omega
theorem Wf{x:ByteArray}{hd a b:List UInt8}{wd:List Int}{m:Nat}{d:Int}{ca cb:List Int}{k:Nat}(hk:k<m)(hl:(Lib.join [hd,a,b,zD wd (zZ m d ca cb m)] [10]).length<=1000000000)(hx:x.data.toList=j7 wd (jL m d ca cb k)):x.size<=999999999:=by
 rw[Jm]at hl;have h1:=We wd (zZ m d ca cb m) (jL m d ca cb k) (by unfold zZ;exact List.mem_cons_of_mem _ (List.mem_map.2 ⟨k,List.mem_range.2 hk,rfl⟩));have h2:x.data.toList.length=x.size:=rfl;rw[hx]at h2;omega
theorem bV{LL:List ByteArray}{m:Nat}{f:Nat->List UInt8}(h:LL.map (·.data.toList)=(List.range m).map f){k:Nat}{x:ByteArray}(hk:k<m)(hx:LL[k]?=some x):x.data.toList=f k:=by
 have h1:=congrArg (fun l:List (List UInt8)=>l[k]?) h;simpa[hx,hk]using h1
theorem Vs(m:Nat)(d x:Int)(hr:eZ m d=true)(hx:0<=x/\x<=1000)(W:World):Calls prog 17 #[O J m,O J d,O J x] W (fm (.tuple #[O J (zX m d x),O J 0]) W):=
 (Z2 m d x (by omega) W).mono fun e w'⟨he,hw⟩=>⟨by
  rw[he];have e:Hist.bin m d x=(zX m d x,0):=by unfold Hist.bin;rw[hr,if_pos rfl,if_neg (by omega)]
  rw[e],hw.symm⟩
theorem ae{t:ByteArray}{hd x y:List UInt8}{wd:List Int}{m:Nat}{d:Int}{ca cb:List Int}{LL:List ByteArray}(ht:t=⟨(Lib.join [hd,x,y,zD wd (zZ m d ca cb m)] [10]).toArray⟩)
  (hx:¬ (vN (Lib.join [hd,x,y,zD wd (zZ m d ca cb m)] [10]) []).length<m/\(vN (Lib.join [hd,x,y,zD wd (zZ m d ca cb m)] [10]) []).drop ((vN (Lib.join [hd,x,y,zD wd (zZ m d ca cb m)] [10]) []).length-m)=(List.range m).map fun i=>j7 wd (jL m d ca cb i))
  (h:LL.map (·.data.toList)=(if(vN t.data.toList []).length<m then[]else(vN t.data.toList []).drop ((vN t.data.toList []).length-m))):
  LL.length=m/\LL.map (·.data.toList)=(List.range m).map fun i=>j7 wd (jL m d ca cb i):=by
 subst ht;have e:LL.map (·.data.toList)=(List.range m).map fun i=>j7 wd (jL m d ca cb i):=by
  rw[h]
  show(if(vN (Lib.join [hd,x,y,zD wd (zZ m d ca cb m)] [10]) []).length<m then[]else _)=_
  rw[if_neg hx.1];exact hx.2
 refine⟨?_,e⟩;have:=congrArg List.length e;simpa using this
theorem Vt:∀ xs:List Int,(∀x∈xs,0<=x)->∃ ks:List Nat,ks.map (fun k:Nat=>(k:Int))=xs
 |[],_=>⟨[],rfl⟩
 |x::xs,h=>by
  obtain⟨ks,e⟩:=Vt xs (fun y hy=>h y (by simp[hy]));refine⟨x.toNat::ks,?_⟩;rw[List.map_cons,e];have:=h x (by simp)
  congr 1
  omega
theorem ag(s:Sc)(A:Option Addr)(sn sk:Nat)(wA:Option Addr)(wn wk:Nat)(ws:List Int)(w:World)(hg:Sgs w w.heap.size A sn s.segs)(hw:HB.Rd w w.heap.size 1 wA wn (ws.map (Value.int .u32))/\ws.length=wn)(hwx:∀ x∈ws,0<=x/\x<=4294967295)
  (ht:Tab w)(hD:5<w.heap.size)(hrp:RepOK w):
  Calls prog 4 #[s.v A sn sk,.slice wA wn wk] w (Hv w):=by
 have HFW:=ze (fun W(hb:Below w.heap.size w W)=>bQ s A sn sk wA wn wk ws W ((hg.below hb).mono hb.size) ⟨(hw.1.below hb).mono hb.size,hw.2⟩ hwx);have HLV:=ze (fun W(hb:Below w.heap.size w W)=>UY W (ht.below hb hD) (Nat.lt_of_lt_of_le hD hb.size) (hrp.below hb));have HPL:=ze (fun(hs:s.ok)(hf:s.fl<=20)(hh:s.hor<=300)(hwn:wn<=600) m(hm:s.bins=((m:Nat):Int)) a n(hr:Run (s.segs.map qF) ws (qw (s.segs.map qF) s.hor) 0 0 0 (some (a,n))) W(hb:Below w.heap.size w W)=>Zk s hs hf hh A sn sk wA wn wk ws W ((hg.below hb).mono hb.size) ⟨(hw.1.below hb).mono hb.size,hw.2⟩ hwn hwx (ht.below hb hD) (Nat.lt_of_lt_of_le hD hb.size) (hrp.below hb) m hm a n hr);have HRP:=ze (fun W(hb:Below w.heap.size w W)=>hrp.below hb);have HWL:=ze hw.2;have HB0:=ze (Bs.one w (s.ls A sn sk) 25);obtain⟨⟨a0,a1,a2,a3,a4,a5,a6,a7,a8,a9,a10,a11,a12⟩,-⟩:=(HB0.o.cell (q:=w.heap.size) (l:=s.ls A sn sk) (by simp)).o13;clear hg hw ht hrp;go_enter func4,ntmps4;go_wp2_with fail;refine(HFW.o _ HB0.o.b).mono ?_;rintro r w1 ⟨b,rfl,hP,hb1⟩;have HP:=ze hP;have HB1:=ze (HB0.o.step hb1);clear hP hb1 HFW HB0 a0 a1 a2 a3 a4 a5 a6 a7 a8 a9 a10 a11 a12;cases b with
 |false=>
  have HL:=ze (HLV.o _ HB1.o.b);clear HP HLV HPL HRP;go_wp2_with fail;refine HL.o.mono ?_;rintro r w2 ⟨rfl,hb2⟩;have HB2:=ze (HB1.o.step hb2);clear hb2;go_wp2_with fail;go_ret;exact⟨rfl,HB2.o.b⟩
 |true=>
  obtain⟨⟨hs,hf,hh⟩,hwn,a,n,hr⟩:=HP.o rfl;obtain⟨m,hm⟩:∃ m:Nat,s.bins=(m:Int):=⟨s.bins.toNat,by have:=hs.bins;omega⟩;have hm1:=hs.bins;rw[hm]at hm1;have HMW:=ze hs.width;have HPL1:=ze (HPL.o hs hf hh hwn m hm a n hr _ HB1.o.b);obtain⟨⟨a0,a1,a2,a3,a4,a5,a6,a7,a8,a9,a10,a11,a12⟩,-⟩:=(HB1.o.cell (q:=w.heap.size) (l:=s.ls A sn sk) (by simp)).o13;have hzw:=HB1.o.lt (q:=w.heap.size) (l:=s.ls A sn sk) (by simp);have HN:=ze (show n<=600 from by have:=bU hr;have:=HWL.o;omega);have HM:=ze hm;have HS:=ze hs;clear HP HPL hr hf hh hwn hm hs;go_upto_region 4 with(go_at_call 10;(with_reducible refine HPL1.o.mono ?_);rintro r w2 ⟨t,tA,tk,lA,ln,lk,l,rfl,hx,hts,htp,hln,hb2⟩;have HX:=ze hx;have HT2:=ze hts;have HTP:=ze htp;have HB2:=ze (HB1.o.step hb2);clear hx hts htp hln hb2 a0 a1 a2 a3 a4 a5 a6 a7 a8 a9 a10 a11 a12);have HB3:=ze (HB2.o.new (q:=w2.heap.size) rfl (ZM t tA l.length tk lA ln lk a) 44);have hk0:w.heap.size<w2.heap.size:=HB2.o.lt (q:=w.heap.size) (l:=s.ls A sn sk) (by simp);refine zq (w:=w) (fun V=>Bs w V [(w2.heap.size,ZM t tA l.length tk lA ln lk a),(w.heap.size,s.ls A sn sk)]/\Trs V w2.heap.size tA l.length l) ⟨HB3.o,HT2.o.below (by go_grown)⟩ HB3.o.b ?_;clear HB1 HB2 HB3 HT2 HPL1 hzw;generalize w2.heap.size=k2 at*;rintro V ⟨hbs,hts⟩ hbV;have HBS:=ze hbs;have HTS:=ze hts;have hk2:k2<V.heap.size:=hbs.lt (q:=k2) (l:=ZM t tA l.length tk lA ln lk a) (by simp);have c4:=(hbs.cell (q:=k2) (l:=ZM t tA l.length tk lA ln lk a) (by simp) 4 _ rfl).1;have a11:V.cell? ⟨w.heap.size,11,none⟩=some (O J (m:Int)):=by
   rw[<-HM.o];exact(hbs.cell (q:=w.heap.size) (l:=s.ls A sn sk) (by simp) 11 _ rfl).1
  clear hbs hts hbV;obtain⟨xx,yy,wd,htx,hsz⟩:=HX.o;have HTL:=ze (Hy t m V (by rw[htx];show(List.toArray _).size<=_;rw[List.size_toArray];exact hsz) (by omega) (by omega));have HTX:=ze (XY (qU s).data.toList xx.data.toList yy.data.toList wd m s.width (by have:=HMW.o;omega) _ _ (vD m s.width m (waits l)) (vD m s.width m (zj l)) _ rfl);have HTQ:=ze htx;have HSZ:=ze hsz;clear htx hsz;go_upto_region 7 with(go_at_call 12;(with_reducible refine HTL.o.mono ?_);rintro r w4 ⟨LA,Ln,Lc,LL,rfl,hrd,hll,hmp,hb4⟩;have HLM:=ze (ae HTQ.o HTX.o hmp);obtain rfl:m=Ln:=HLM.o.1.symm.trans hll;have HLR:=ze hrd;have HLB:=ze hb4;have b11:=zf hb4 a11;clear hrd hll hmp hb4);have HB4:=ze (HBS.o.step HLB.o);have HT4:=ze ((HTS.o.below (HLB.o.mono (Nat.le_of_lt hk2))).mono (Nat.le_trans (Nat.le_of_lt hk2) HLB.o.size));have hl6:l.length<=600:=by have:=HTP.o.n;have:=HN.o;omega
  have HWT:=ze (fun W(hb:Below w4.heap.size w4 W)=>vo (uE tA l.length tk w4.heap.size l W (HT4.o.below hb) hb.size (by omega) HTP.o.ok));have HTT:=ze (fun W(hb:Below w4.heap.size w4 W)=>vo (vx tA l.length tk w4.heap.size l W (HT4.o.below hb) hb.size (by omega) HTP.o.ok))
  go_cut [8,9]from 10 to 220 (fun v8 v9 wx=>∃(xA:Option Addr)(xk:Nat)(yA:Option Addr)(yk:Nat),v8=.slice xA (waits l).length xk/\v9=.slice yA (zj l).length yk/\Below w4.heap.size w4 wx/\Hz (HB.Rd wx wx.heap.size 1 xA (waits l).length ((waits l).map (Value.int .i64)))/\Hz (HB.Rd wx wx.heap.size 1 yA (zj l).length ((zj l).map (Value.int .i64))))
  case first=>
   refine jG (S:=fun i v W=>(([.is (.pointer (some ⟨k2,5,none⟩)),.is (.pointer (some ⟨k2,5,none⟩)),.is (.slice tA l.length tk),.ints (waits l),.is (.pointer (some ⟨k2,5,none⟩)),.is (.pointer (some ⟨k2,5,none⟩)),.is (.slice tA l.length tk),.ints (zj l),.ints (waits l),.ints (zj l)]:List Kt).getD i (.is undef)).holds v W) (by rfl) (by kernel_rfl) (fun i v W W' h hb=>Kt.lasts _ v W W' h hb) ⟨?s0,?s1,?s2,?s3,?s4,?s5,?s6,?s7,?s8,?s9,trivial⟩ (fun act W H=>?fin)
   case s0=>
    intro act W hb ho hn;have e5:act.tmps.getD 5 undef=.pointer (some ⟨k2,0,none⟩):=ho 5 (by kernel_rfl);refine zw (k:=.is (.pointer (some ⟨k2,5,none⟩))) ?_ fh rfl;simp only[execOp,Act.eval,e5];go_simp
   case s1=>
    intro act W hb ho hn;have e:act.tmps.getD 55 undef=.pointer (some ⟨k2,5,none⟩):=hn 0 _ 55 (by kernel_rfl) rfl rfl;refine zw (k:=.is (.pointer (some ⟨k2,5,none⟩))) ?_ fh rfl;simp only[execOp,Act.eval,e];go_simp
   case s2=>
    intro act W hb ho hn;have e:act.tmps.getD 56 undef=.pointer (some ⟨k2,5,none⟩):=hn 1 _ 56 (by kernel_rfl) rfl rfl;have k:=((HB4.o.step hb).cell (q:=k2) (l:=ZM t tA l.length tk lA ln lk a) (by simp) 5 _ rfl).1;refine zw (k:=.is (.slice tA l.length tk)) ?_ fh rfl;simp only[execOp,Act.eval,e];go_simp
   case s3=>
    intro act W hb ho hn;have e:act.tmps.getD 57 undef=.slice tA l.length tk:=hn 2 _ 57 (by kernel_rfl) rfl rfl;refine jP (k:=.ints (waits l)) (f:=13) (args:= #[.slice tA l.length tk]) ?_ (HWT.o _ hb);simp only[execOp,Act.eval,e];go_simp
   case s4=>
    intro act W hb ho hn;have e5:act.tmps.getD 5 undef=.pointer (some ⟨k2,0,none⟩):=ho 5 (by kernel_rfl);refine zw (k:=.is (.pointer (some ⟨k2,5,none⟩))) ?_ fh rfl;simp only[execOp,Act.eval,e5];go_simp
   case s5=>
    intro act W hb ho hn;have e:act.tmps.getD 59 undef=.pointer (some ⟨k2,5,none⟩):=hn 4 _ 59 (by kernel_rfl) rfl rfl;refine zw (k:=.is (.pointer (some ⟨k2,5,none⟩))) ?_ fh rfl;simp only[execOp,Act.eval,e];go_simp
   case s6=>
    intro act W hb ho hn;have e:act.tmps.getD 60 undef=.pointer (some ⟨k2,5,none⟩):=hn 5 _ 60 (by kernel_rfl) rfl rfl;have k:=((HB4.o.step hb).cell (q:=k2) (l:=ZM t tA l.length tk lA ln lk a) (by simp) 5 _ rfl).1;refine zw (k:=.is (.slice tA l.length tk)) ?_ fh rfl;simp only[execOp,Act.eval,e];go_simp
   case s7=>
    intro act W hb ho hn;have e:act.tmps.getD 61 undef=.slice tA l.length tk:=hn 6 _ 61 (by kernel_rfl) rfl rfl;refine jP (k:=.ints (zj l)) (f:=14) (args:= #[.slice tA l.length tk]) ?_ (HTT.o _ hb);simp only[execOp,Act.eval,e];go_simp
   case s8=>
    intro act W hb ho hn;obtain⟨A,k,e,hr⟩:∃(A:Option Addr)(k:Nat),act.tmps.getD 58 undef=.slice A (waits l).length k/\HB.Rd W W.heap.size 1 A (waits l).length ((waits l).map (Value.int .i64)):=hn 3 _ 58 (by kernel_rfl) rfl rfl;refine zw (k:=.ints (waits l)) (v:=.slice A (waits l).length k) ?_ fh ⟨A,k,rfl,hr⟩;simp only[execOp,Act.eval,e];go_simp
   case s9=>
    intro act W hb ho hn;obtain⟨A,k,e,hr⟩:∃(A:Option Addr)(k:Nat),act.tmps.getD 62 undef=.slice A (zj l).length k/\HB.Rd W W.heap.size 1 A (zj l).length ((zj l).map (Value.int .i64)):=hn 7 _ 62 (by kernel_rfl) rfl rfl;refine zw (k:=.ints (zj l)) (v:=.slice A (zj l).length k) ?_ fh ⟨A,k,rfl,hr⟩;simp only[execOp,Act.eval,e];go_simp
   case fin=>
    obtain⟨xA,xk,e8,hx⟩:∃(A:Option Addr)(k:Nat),act.tmps.getD 8 undef=.slice A (waits l).length k/\HB.Rd W W.heap.size 1 A (waits l).length ((waits l).map (Value.int .i64)):=H.new 8 _ 8 rfl rfl (by kernel_rfl);obtain⟨yA,yk,e9,hy⟩:∃(A:Option Addr)(k:Nat),act.tmps.getD 9 undef=.slice A (zj l).length k/\HB.Rd W W.heap.size 1 A (zj l).length ((zj l).map (Value.int .i64)):=H.new 9 _ 9 rfl rfl (by kernel_rfl);have o0:act.tmps.getD 0 undef=s.v A sn sk:=H.old 0 (zn (by kernel_rfl));have o1:act.tmps.getD 1 undef=.slice wA wn wk:=H.old 1 (zn (by kernel_rfl));have o3:act.tmps.getD 3 undef=undef:=H.old 3 (zn (by kernel_rfl));have o2:act.tmps.getD 2 undef=.pointer (some ⟨w.heap.size,0,none⟩):=H.old 2 (zn (by kernel_rfl));have o4:act.tmps.getD 4 undef=.bool false:=H.old 4 (zn (by kernel_rfl));have o5:act.tmps.getD 5 undef=.pointer (some ⟨k2,0,none⟩):=H.old 5 (zn (by kernel_rfl));have o6:act.tmps.getD 6 undef=.bool true:=H.old 6 (zn (by kernel_rfl));have o7:act.tmps.getD 7 undef=.slice LA m Lc:=H.old 7 (zn (by kernel_rfl));have hd9:=H.dfr;have hsz:=H.siz;have HBL7:=ze H.bel;have HX7:=ze hx;have HY7:=ze hy;obtain⟨tmps,dfr⟩:=act;dsimp only at hd9 hsz e8 e9 o0 o1 o3 o2 o4 o5 o6 o7;subst hd9;have e:=fv tmps 221 hsz;dsimp only[fB,Nat.reduceAdd]at e;clear H hsz hx hy;rw[e8,e9,o0,o1,o3,o2,o4,o5,o6,o7]at e;clear e8 e9 o0 o1 o3 o2 o4 o5 o6 o7;generalize Array.getD tmps=tg at e;subst e;clear HX;go_wp2_with fail
    go_meet
    exact⟨xA,xk,yA,yk,rfl,rfl,HBL7.o,HX7,HY7⟩
  case rest=>
   obtain⟨xA,xk,yA,yk,rfl,rfl,hbc,HX7,HY7⟩:=hcut;have HB7:=ze (HB4.o.step hbc);have HLR7:=ze ((HLR.o.below hbc).mono hbc.size);clear hbc;have hw0:=HTP.o.wt;have ht0:=HTP.o.tr;have hxl:(waits l).length<=600:=by unfold waits;rw[List.length_map];exact Nat.le_trans (List.length_filter_le _ _) hl6
   have hyl:(zj l).length=(waits l).length:=by unfold waits zj;rw[List.length_map,List.length_map]
   have hmw:=HMW.o;have HRT:=ze (show eZ m s.width=true by unfold eZ;rw[decide_eq_true_eq];omega);have HXX:=ze HX.o;clear HB4 HT4 HWT HTT HLR HLB HBS HTS HTL HTX HTQ c4 a11 b11 HX HTP;generalize waits l=xs at*;generalize zj l=ys at*;rw[hyl];have HYL:=ze hyl;clear hyl;have HW0:=ze hw0;have HT0:=ze ht0;clear hw0 ht0;have b11:wc.cell? ⟨w.heap.size,11,none⟩=some (O J (m:Int)):=by rw[<-HM.o];exact(HB7.o.cell (q:=w.heap.size) (l:=s.ls A sn sk) (by simp) 11 _ rfl).1
   have b12:=(HB7.o.cell (q:=w.heap.size) (l:=s.ls A sn sk) (by simp) 12 _ rfl).1;obtain⟨lb,lo,rfl,hlb,hlc⟩:=HLR7.o.2 (by omega);have HLC:=ze (fun(k:Nat)(x:ByteArray)(h:LL[k]?=some x)=>hlc k (.string x) (by rw[List.getElem?_map,h];rfl));clear hlc HLR7 hlb;have HLV7:=ze (fun V(hb:Below wc.heap.size wc V)=>HLV.o V (HB7.o.b.trans (hb.mono HB7.o.b.size)));clear HLV;go_wp2_with fail
   go_loopw [10,11,12] (fun u9 v9 i9 wr=>∃(k f g:Nat),u9=O J f/\v9=O J g/\i9=O J k/\k<=m/\Hz (f=acc m s.width xs k/\g=acc m s.width ys k)/\Below wc.heap.size wc wr) (fun _ _ i9 _=>m-(intOf i9).toNat)
   case atStart=>exact⟨0,0,0,rfl,rfl,rfl,Nat.zero_le _,ze ⟨rfl,rfl⟩,fh⟩
   case round=>
    obtain⟨k,f,g,rfl,rfl,rfl,hk,HF,hb⟩:=hrel;have hf9:f<=38400:=by have:=XZ m s.width xs hxl k;have:=HF.o.1;have:k*600<=64*600:=Nat.mul_le_mul_right _ (by omega);omega
    have hg9:g<=38400:=by have:=XZ m s.width ys (by rw[HYL.o];exact hxl) k;have:=HF.o.2;have:k*600<=64*600:=Nat.mul_le_mul_right _ (by omega);omega
    have HB:=ze hb;clear hb;by_cases hlt:k<m
    ·obtain⟨x,hx⟩:∃ x,LL[k]?=some x:=⟨_,List.getElem?_eq_getElem (by rw[HLM.o.1];exact hlt)⟩;have c0:wr.cell? ⟨lb,lo+k,none⟩=some (.string x):=zf HB.o (HLC.o k x hx);have hxe:=bV HLM.o.2 hlt hx;obtain⟨p,hp⟩:∃ p,p=(xs.filter (vz m s.width k)).length:=⟨_,rfl⟩;obtain⟨q,hq⟩:∃ q,q=(ys.filter (vz m s.width k)).length:=⟨_,rfl⟩;have hp9:p<=600:=by rw[hp];exact Nat.le_trans (List.length_filter_le _ _) hxl
     have hq9:q<=600:=by rw[hq];exact Nat.le_trans (List.length_filter_le _ _) (by rw[HYL.o];exact hxl)
     have HCE:=ze (Wb wd m s.width (by omega) _ _ k p q ((JG m s.width m xs k hlt).trans (by rw[hp])) ((JG m s.width m ys k hlt).trans (by rw[hq])));have HCC:=ze (XU x wr (Wf hlt HSZ.o hxe));rw[<-hxe]at HCE;have HPQ:=ze (And.intro hp hq);clear hx hxe hp hq;have h2:decide ((k:Int)<(m:Int))=true:=by simp;omega
     go_upto_region 17 with(first|(go_at_call 15;(with_reducible refine HCC.o.mono ?_);rintro r w5 ⟨v5,CL,rfl,hown,hmp,hb5⟩;obtain⟨cb,co,Cc,rfl,hc3,d1,d2⟩:=Wc hown (hmp.trans HCE.o);have HB5:=ze (HB.o.trans (hb5.mono HB.o.size));clear hown hmp hb5)|(go_at_call 16;(with_reducible refine(yD p (by omega) _).mono ?_);rintro r w6 ⟨rfl,rfl⟩)|(go_at_call 16;(with_reducible refine(yD q (by omega) _).mono ?_);rintro r w7 ⟨rfl,rfl⟩));clear HCC HCE c0 d1 d2;have HBB:=ze (fun(x9:Int)(h:x9∈xs) W=>Vs m s.width x9 HRT.o (HW0.o x9 h) W);have HBC:=ze (fun(x9:Int)(h:x9∈ys) W=>Vs m s.width x9 HRT.o (HT0.o x9 h) W);go_wp2_with fail
     go_loopw [18,19,20] (fun u8 v8 i8 wz=>∃(j f8 g8:Nat),u8=O J f8/\v8=O J g8/\i8=O J j/\j<=xs.length/\Hz (f8=((xs.take j).filter (vz m s.width k)).length/\g8=((ys.take j).filter (vz m s.width k)).length)/\Below wc.heap.size wc wz) (fun _ _ i8 _=>xs.length-(intOf i8).toNat)
     case atStart=>exact⟨0,0,0,rfl,rfl,rfl,Nat.zero_le _,ze ⟨by simp,by simp⟩,HB5.o⟩
     case round=>
      obtain⟨j,f8,g8,rfl,rfl,rfl,hj,HFG,hbz⟩:=hrel;have HBZ:=ze hbz;have hf8:f8<=600:=by rw[HFG.o.1];exact Nat.le_trans (List.length_filter_le _ _) (by rw[List.length_take];omega)
      have hg8:g8<=600:=by rw[HFG.o.2];exact Nat.le_trans (List.length_filter_le _ _) (by rw[List.length_take,HYL.o];omega)
      clear hbz;by_cases hjt:j<xs.length
      ·have h5:decide ((j:Int)<(xs.length:Int))=true:=by simp;omega
       obtain⟨xb,xo,x9,rfl,hxb,hxg,e0⟩:=(HX7.o.below HBZ.o).int_at rfl hjt;obtain⟨yb,yo,y9,rfl,hyb,hyg,e1⟩:=(HY7.o.below HBZ.o).int_at rfl (i:=j) (show j<ys.length by rw[HYL.o];exact hjt);have b11z:=zf HBZ.o b11;have b12z:=zf HBZ.o b12;have HC1:=ze (HBB.o x9 (List.mem_of_getElem? hxg));have HC2:=ze (HBC.o y9 (List.mem_of_getElem? hyg));have HP1:=ze (JH m s.width xs k j x9 hxg (HW0.o x9 (List.mem_of_getElem? hxg)).1);have HP2:=ze (JH m s.width ys k j y9 hyg (HT0.o y9 (List.mem_of_getElem? hyg)).1);clear hxg hyg hxb hyb;generalize zX m s.width x9=P at*;generalize zX m s.width y9=Q at*;by_cases hP:P=(k:Int)
       ·have ep:(P==(k:Int))=true:=by simpa using hP
        have HN1:=ze (show((xs.take (j+1)).filter (vz m s.width k)).length=f8+1 by rw[HP1.o,if_pos hP,<-HFG.o.1]);clear hP HP1;by_cases hQ:Q=(k:Int)
        ·have eq:(Q==(k:Int))=true:=by simpa using hQ
         have HN2:=ze (show((ys.take (j+1)).filter (vz m s.width k)).length=g8+1 by rw[HP2.o,if_pos hQ,<-HFG.o.2]);clear hQ HP2 HFG HBB HBC;go_wp2_with fail;go_quiet((go_at_call 17;exact Calls.quiet_of_same (HC1.o _)));go_wp2_with fail;go_quiet((go_at_call 17;first|exact zT (HC2.o _)|exact Calls.quiet_of_same (HC2.o _)));go_wp2_with fail;go_roundw
         case rel=>exact⟨j+1,f8+1,g8+1,by first|rfl|go_num,by first|rfl|go_num,by go_num,hjt,ze ⟨HN1.o.symm,HN2.o.symm⟩,zg HBZ.o _⟩
         case measure=>simp[intOf];omega
        ·have eq:(Q==(k:Int))=false:=by simpa using hQ
         have HN2:=ze (show((ys.take (j+1)).filter (vz m s.width k)).length=g8+0 by rw[HP2.o,if_neg hQ,<-HFG.o.2]);clear hQ HP2 HFG HBB HBC;go_wp2_with fail;go_quiet((go_at_call 17;exact Calls.quiet_of_same (HC1.o _)));go_wp2_with fail;go_quiet((go_at_call 17;first|exact zT (HC2.o _)|exact Calls.quiet_of_same (HC2.o _)));go_wp2_with fail;go_roundw
         case rel=>exact⟨j+1,f8+1,g8+0,by first|rfl|go_num,by first|rfl|go_num,by go_num,hjt,ze ⟨HN1.o.symm,HN2.o.symm⟩,zg HBZ.o _⟩
         case measure=>simp[intOf];omega
       ·have ep:(P==(k:Int))=false:=by simpa using hP
        have HN1:=ze (show((xs.take (j+1)).filter (vz m s.width k)).length=f8+0 by rw[HP1.o,if_neg hP,<-HFG.o.1]);clear hP HP1;by_cases hQ:Q=(k:Int)
        ·have eq:(Q==(k:Int))=true:=by simpa using hQ
         have HN2:=ze (show((ys.take (j+1)).filter (vz m s.width k)).length=g8+1 by rw[HP2.o,if_pos hQ,<-HFG.o.2]);clear hQ HP2 HFG HBB HBC;go_wp2_with fail;go_quiet((go_at_call 17;exact Calls.quiet_of_same (HC1.o _)));go_wp2_with fail;go_quiet((go_at_call 17;first|exact zT (HC2.o _)|exact Calls.quiet_of_same (HC2.o _)));go_wp2_with fail;go_roundw
         case rel=>exact⟨j+1,f8+0,g8+1,by first|rfl|go_num,by first|rfl|go_num,by go_num,hjt,ze ⟨HN1.o.symm,HN2.o.symm⟩,zg HBZ.o _⟩
         case measure=>simp[intOf];omega
        ·have eq:(Q==(k:Int))=false:=by simpa using hQ
         have HN2:=ze (show((ys.take (j+1)).filter (vz m s.width k)).length=g8+0 by rw[HP2.o,if_neg hQ,<-HFG.o.2]);clear hQ HP2 HFG HBB HBC;go_wp2_with fail;go_quiet((go_at_call 17;exact Calls.quiet_of_same (HC1.o _)));go_wp2_with fail;go_quiet((go_at_call 17;first|exact zT (HC2.o _)|exact Calls.quiet_of_same (HC2.o _)));go_wp2_with fail;go_roundw
         case rel=>exact⟨j+1,f8+0,g8+0,by first|rfl|go_num,by first|rfl|go_num,by go_num,hjt,ze ⟨HN1.o.symm,HN2.o.symm⟩,zg HBZ.o _⟩
         case measure=>simp[intOf];omega
      ·obtain rfl:j=xs.length:=by omega
       have hfx:f8=p:=by rw[HFG.o.1,List.take_of_length_le fi,<-HPQ.o.1]
       have hgx:g8=q:=by rw[HFG.o.2,List.take_of_length_le (by rw[HYL.o];exact fi),<-HPQ.o.2]
       subst hfx;subst hgx;have h5:decide ((xs.length:Int)<(xs.length:Int))=false:=by simp
       clear HBB HBC HFG;go_wp2_with fail;go_roundw
       case rel=>exact⟨k+1,f+f8,g+g8,by go_num,by go_num,by go_num,hlt,ze ⟨by rw[acc,HF.o.1,HPQ.o.1],by rw[acc,HF.o.2,HPQ.o.2]⟩,HBZ.o⟩
       case measure=>simp[intOf];omega
    ·obtain rfl:m=k:=by omega
     have hfx:f=xs.length:=HF.o.1.trans (QN m s.width (by omega) (by omega) xs (fun t ht=>(HW0.o t ht).1));have hgx:g=ys.length:=HF.o.2.trans (QN m s.width (by omega) (by omega) ys (fun t ht=>(HT0.o t ht).1));subst hfx;subst hgx;have h2:decide ((m:Int)<(m:Int))=false:=by simp
     clear HF HLC HLM HSZ;clear hf9 hg9 hlt hk h2 HXX;have h2:decide ((m:Int)<(m:Int))=false:=by simp
     by_cases hx0:xs.length=0
     ·have hy0:ys.length=0:=HYL.o.trans hx0;rw[hx0,hy0];have HST:=ze (vB ⟨#[119,97,105,116]⟩ (by decide) xA xk wr);clear HX7 HY7 HRT HW0 HT0 HRP b11 b12;go_wp2_with(first
       |(go_at_call 18;(with_reducible refine HST.o.mono ?_);rintro r w8 ⟨⟨A8,k8,l8,rfl,hsr,rfl⟩,hb8⟩;obtain⟨b8,o8,rfl,-,hc8⟩:=hsr.rd.at_ (show 0<6 by omega);have e8:w8.cell? ⟨b8,o8+1,none⟩=some (.string ⟨#[110,47,97]⟩):=hc8 1 _ rfl;have HB8:=ze (HB.o.trans (hb8.mono HB.o.size));clear hsr hb8 hc8)
       |(go_at_call 7;(with_reducible refine(HLV7.o _ HB8.o).mono ?_);rintro r w9 ⟨rfl,hb9⟩;have HB9:=ze (HB8.o.trans (hb9.mono HB8.o.size));clear hb9 e8))
      go_ret;exact⟨rfl,HB7.o.b.trans (HB9.o.mono HB7.o.b.size)⟩
     ·obtain⟨ks,hks⟩:∃ ks:List Nat,ks.map (fun k:Nat=>(k:Int))=xs:=Vt xs (fun x hx=>(HW0.o x hx).1);have hkl:ks.length=xs.length:=by rw[<-hks,List.length_map]
      have hkm:∀ k∈ks,k<=1000000:=fun k hk=>by have:=(HW0.o (k:Int) (by rw[<-hks];exact List.mem_map.2 ⟨k,hk,rfl⟩)).2;omega
      obtain⟨xb,xo,x9,rfl,-,-,-⟩:=HX7.o.int_at rfl (i:=0) (by omega);have hrk:=HX7.o;rw[<-hks,List.map_map,hks]at hrk;have hsum:=Gl ks hkm;have HST:=ze (Z4 ⟨#[119,97,105,116]⟩ (by decide) xb xo xs.length xk ks wr ((hrk.below HB.o).mono HB.o.size) hkl (by omega) (by omega) hkm (HRP.o wr (HB7.o.b.trans (HB.o.mono HB7.o.b.size))));have HMN:=ze (fun W(hb:Below wc.heap.size wc W)=>Jj (some ⟨xb,xo,none⟩) xs.length xk wc.heap.size ks W (hrk.below hb) hb.size hkl (by omega) (by omega) (by omega));have HRK:=ze (fun W(hb:Below wc.heap.size wc W)=>Ym 95 xb xo xs.length xk wc.heap.size xs W (HX7.o.below hb) hb.size rfl (by omega) (by omega) (by omega) (by omega));have HDG:=ze (fun W=>ja (Ql 95 xs) (Yn 95 xs (fun x hx=>by have:=HW0.o x hx;exact⟨by omega,by omega⟩)) W);rw[hks]at HST;generalize(ks.sum:Int)/(xs.length:Int)=mq at HMN;generalize(ks.sum:Int)%(xs.length:Int)=mr at HMN;generalize hhi:zC (Ql 95 xs)=hi at*;have HHI:=ze hhi;clear hhi;have hn0:((xs.length:Int)==0)=false:=beq_eq_false_iff_ne.2 (by omega);rw[HYL.o];clear hks hkl hkm hrk hsum HX7 HY7 HRT HW0 HT0 HRP b11 b12 hx0;go_upto_region 35 with(first
       |(go_at_call 18;(with_reducible refine HST.o.mono ?_);rintro r w8 ⟨⟨A8,k8,l8,rfl,hsr,⟨y8,rfl⟩⟩,hb8⟩;obtain⟨b8,o8,rfl,-,hc8⟩:=hsr.rd.at_ (show 0<6 by omega);have e8:w8.cell? ⟨b8,o8+4,none⟩=some (.string hi):=(by rw[<-HHI.o];exact hc8 4 _ rfl);have HB8:=ze (HB.o.trans (hb8.mono HB.o.size));clear hsr hb8 hc8)
       |(go_at_call 19;(with_reducible refine(HMN.o _ HB8.o).mono ?_);rintro r w9 ⟨rfl,hb9⟩;have HB9:=ze ((HB8.o.trans (hb9.mono HB8.o.size)).alloc (HB8.o.trans (hb9.mono HB8.o.size)).size (.cells #[O J mq,O J mr,O J (xs.length:Int)] 60));have e9:=zf (hb9.alloc hb9.size (.cells #[O J mq,O J mr,O J (xs.length:Int)] 60)) e8;have HN9:=ze (Bx.new w9 [O J mq,O J mr,O J (xs.length:Int)] 60);clear hb9 e8)
       |(go_at_call 20;(with_reducible refine(HRK.o _ HB9.o).mono ?_);rintro r w10 ⟨rfl,hb10⟩;have HB10:=ze (HB9.o.trans (hb10.mono HB9.o.size));have e10:=zf hb10 e9;have HN10:=ze (HN9.o.below hb10 (HN9.o.lt (by simp)));have f10:=(HN10.o 2 _ rfl).1;clear hb10 e9))
      go_region_held3 (fun W=>W.cell? ⟨b8,o8+4,none⟩=some (.string hi)/\W.cell? ⟨w9.heap.size,2,none⟩=some (O J (xs.length:Int))/\Below wc.heap.size wc W)
       (first|(with_reducible exact⟨e12,f12,HB12.o⟩)|(with_reducible exact⟨e11,f11,HB11.o⟩)|exact⟨e10,f10,HB10.o.drew⟩)
       (first
        |(go_at_call 21;(with_reducible refine(HDG.o _).mono ?_);rintro r w11 ⟨rfl,hb11⟩;have HB11:=ze (HB10.o.drew.trans (hb11.mono HB10.o.drew.size));have e11:=zf hb11 e10;have f11:=zf hb11 f10;clear hb11)
        |(go_at_call 7;(with_reducible refine(HLV7.o _ HB11.o).mono ?_);rintro r w12 ⟨rfl,hb12⟩;have HB12:=ze (HB11.o.trans (hb12.mono HB11.o.size));have e12:=zf hb12 e11;have f12:=zf hb12 f11;clear hb12))
      all_goals
       go_wp2_with fail;go_ret;exact⟨rfl,HB7.o.b.trans (HB12.o.mono HB7.o.b.size)⟩
end
end Go.Proofs.YtdeogmbfgkepeaaGreatDoor
