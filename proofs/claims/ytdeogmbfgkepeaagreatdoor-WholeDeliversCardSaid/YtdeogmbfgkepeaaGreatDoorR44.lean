/- Contracts for WholeDelivers. -/
import Derived.Test.YtdeogmbfgkepeaaGreatDoorR24
import Derived.Test.YtdeogmbfgkepeaaGreatDoorR43
import Derived.Test.YtdeogmbfgkepeaaGreatDoorR53
import Derived.Test.YtdeogmbfgkepeaaGreatDoorR54
set_option linter.unusedVariables false
set_option linter.unusedSimpArgs false
set_option maxRecDepth 100000
set_option maxHeartbeats 64000000
namespace Go.Proofs.YtdeogmbfgkepeaaGreatDoor
open Go.Proofs.Tryz
open Go.Value renaming int->O
open Go.IntKind renaming i64->J
section
open Go.RowKit HB Go.Maps CalP
theorem KT(s:Sc)(hs:s.ok)(sA:iX)(sn sk:Nat)(h:Nat)(tA:iX)(tn tc:Nat)(I T:Int)(base:Nat)(c:Cr)(A:iX)(n k B:Nat)(l:List Rid)(trips:List Tr)(S:HS)(w:l6)
  (hr:Rds w B A n l)(hB:B<=w.heap.size)(hn:n<=1000)(hnk:n<=k)(H:Hl w h S)(hnw:S.nw<=1000000)(hXR:∀ b off,A=some ⟨b,off,none⟩->¬ Xh S h b)(ht:Own w base 87 7 kN (.slice tA tn tc) trips)(hXT:∀ q,(Value.slice tA tn tc).ownBlock=some q->¬ Xh S h q)
  (hid:∀ r∈l,0<=r.id/\r.id<trips.length)(hwid:∀ k,∀x∈S.L k,0<=x.id/\x.id<trips.length)(htl:trips.length<=10000000)(hI:0<=I)(hI1:I<=1000)(p0:0<=c.pos)(p1:c.pos<=127*s.gap)(d0: -1<=c.dir)(d1:c.dir<=1)(hAx:∀ b off,A=some ⟨b,off,none⟩->b<w.heap.size):
  Calls prog 193 #[aj s sA sn sk h (.slice tA tn tc) I T,c.v A n k] w (Gz s I (c.pos/s.gap) T c l trips base A (.slice tA tn tc) h S w):=by
 by_cases h0:∃ r∈l,r.to_=c.pos/s.gap
 ·exact UB s hs sA sn sk h tA tn tc I T base c A n k B l trips S w hr hB hn hnk H hnw hXR ht hXT hid hwid htl hI hI1 p0 p1 d0 d1 hAx h0
 ·exact GL s hs sA sn sk h tA tn tc I T base c A n k B l trips S w hr hB hn hnk H hnw hXR ht hXT hid hwid htl hI hI1 p0 p1 d0 d1 hAx h0
theorem XC(base:Nat)(s:Sc)(hs:s.ok)(sA:iX)(sn sk wb h:Nat)(w:l6)(S:HS)(g n ck:Nat)(tv:Value)(L:List Ca)(trips:List Tr)(T:Int)(i:Nat)(x:Ca)
  (H:Wd base s sA sn sk wb h w S (.slice (some ⟨g,0,none⟩) n ck) tv L trips T)(hn:L.length=n)(hnk:n<=ck)(hn1:n<=1000)(hi:L[i]?=some x)(hok:x.ok s.gap)(hm:x.c.mode=2\/x.c.mode=3)(hl:x.c.left=1)(hnw:S.nw<=1000000)(hid:∀ r∈x.l,0<=r.id/\r.id<trips.length)(hwid:∀ k,∀x∈S.L k,0<=x.id/\x.id<trips.length)(htl:trips.length<=10000000):
  Calls prog 143 #[.pointer (some ⟨wb,0,none⟩),O J (i:Int)] w (Uw base s sA sn sk wb h w S (.slice (some ⟨g,0,none⟩) n ck) tv L trips T i x):=by
 obtain⟨tA,tn,tc,hN,-,-⟩:=HB.Own.slice H.tr;subst hN;have h6:=(H.ri x (jx hi)).2;have h0:=ze H;have HI:=ze hi;have HN:=ze hn;have hQ:i<n:=by have:=(qd.1 hi).1;omega
 have hD:=ze (H.ri x (jx hi)).1;have hg:=ze H.bx;have hy:=H.bx.lt (by simp);have hJ:=(H.cr.lt (k:=g) rfl).2;have p0:=hok.p0;have p1:=hok.p1;have d0:=hok.d0;have d1:=hok.d1;have n1:=hok.n1;have b0:=H.cr.elem_cell zh hn hi (show 0<6 by omega) rfl;have b1:=(H.cr.elem_cell zh hn hi (show 1<6 by omega) rfl).1;have b2:=(H.cr.elem_cell zh hn hi (show 2<6 by omega) rfl).1;have b3:=(H.cr.elem_cell zh hn hi (show 3<6 by omega) rfl).1;have b4:=(H.cr.elem_cell zh hn hi (show 4<6 by omega) rfl).1;have b5:=(H.cr.elem_cell zh hn hi (show 5<6 by omega) rfl).1;have b0:w.cell? ⟨g,i*6,none⟩=some (O J x.c.pos):=b0.1;have i0:(0:Int)<=(i:Int):=by omega
 have i1:(i:Int)<(n:Int):=by omega
 obtain⟨c,A,rn,rk,l⟩:=x;obtain⟨⟨x0,x1,x2,x3,x4,x5,x6,x7,x8,x9,x10,x11,x12,x13,x14,x15,x16⟩,-⟩:=H.bx.o17;clear x0 x1 x2 x3 x4 x5 x6 x7 x8 x9 x10 x11 x12 x13 x15 x16;have hL:i<=n:=by omega
 have hP:=hJ;simp only at hm hl hid h6 p0 p1 d0 d1 n1 b0 b1 b2 b3 b4 b5;clear H hi hn hok;have m0:(c.mode==0)=false:=by(simp;omega)
 have m1:(c.mode==1)=false:=by(simp;omega)
 have m4:(c.mode==4)=false:=by(simp;omega)
 have HM:=ze hm;have HL:=ze hl;have l1:(c.left-1==0)=true:=by simp;omega
 have hC:=ze (show c.left-1=0 by omega);have hl9:1<=c.left:=by omega
 have hR:c.left<=64:=by omega
 have hc:=ze (fun b off(e:A=some ⟨b,off,none⟩)=>(h0.o.s4 b ⟨_,jx HI.o,off,e⟩));have h8:=ze (fun W(hb:Below w.heap.size w W)=>KT s hs sA sn sk h tA tn tc (i:Int) T base ⟨c.pos,c.dir,c.mode,0,c.wt⟩ A rn rk w.heap.size l trips S W (hD.o.below hb) hb.size n1 h6 (h0.o.hl.below hb) hnw (fun b off e hx=>(hc.o b off e).2.2 (.inr (.inl hx))) (h0.o.tr.below hb) (fun q hq=>(h0.o.s3 q hq).2) hid hwid htl (by omega) (by omega) p0 p1 d0 d1 (fun b off e=>kK (hc.o b off e).2.1 hb.size));clear hm hl hid hwid h6
 go_in
 go_upto_region 2 with(fail);refine zq (w:=w) (fun V=>Bx V w.heap.size (c.lv (.slice A rn rk))/\w.heap.size<V.heap.size) ⟨Bx.new w (c.lv (.slice A rn rk)) 265,by simp⟩ ((Below.refl w.heap.size w).alloc fi _) ?_;rintro V ⟨hq,hz⟩ hr;have HQ:=ze hq;have hf:=ze hr;obtain⟨⟨c0,c1,c2,c3,c4,c5⟩,e0,e1,e2,e3,e4,e5⟩:=HQ.o.o6;clear hq hr b0 b1 b2 b3 b4 b5 x14;clear e0 e1 e2 e4 e5;go_upto_region 6 with(fail);refine qj (w:=w) (W:=V.setCell ⟨w.heap.size,3,none⟩ (O J (c.left-1))) (fun V2=>Bx V2 w.heap.size (Cr.lv ⟨c.pos,c.dir,c.mode,0,c.wt⟩ (.slice A rn rk))/\w.heap.size<V2.heap.size) ⟨by have h3:=HQ.o.set 3 (O J (c.left-1));rw[hC.o]at h3⊢;exact h3,by simpa using hz⟩ (hf.o.setCell (p:=⟨w.heap.size,3,none⟩) fi _) ?_;clear c0 c1 c2 c3 c4 c5 e3 HQ hz hf;rintro V2 ⟨hq,hO⟩ ho;have HQ:=ze hq;have hd:=ze ho;clear hq ho
 go_cut [7] (fun v wx=>∃ q7:Nat,v=.pointer (some ⟨q7,0,none⟩)/\V2.heap.size<=q7/\q7<wx.heap.size/\Bx wx q7 (ZD s sA sn sk h (.slice tA tn tc) (i:Int) T)/\Below V2.heap.size V2 wx)
 case first=>
  have h2:=ze (hg.o.below hd.o hy);have h4:wb<V2.heap.size:=by omega
  have MK:=ze (fun W(hb:Below V2.heap.size V2 W)=>(show s.K sA sn sk W wb/\W.cell? ⟨wb,13,none⟩=some (.pointer (some ⟨h,0,none⟩))/\W.cell? ⟨wb,14,none⟩=some (.slice (some ⟨g,0,none⟩) n ck)/\W.cell? ⟨wb,15,none⟩=some (.slice tA tn tc)/\W.cell? ⟨wb,16,none⟩=some (O J T)/\Below V2.heap.size V2 W from⟨(h2.o.below hb h4).k13 rfl,((h2.o.below hb h4) 13 _ rfl).1,((h2.o.below hb h4) 14 _ rfl).1,((h2.o.below hb h4) 15 _ rfl).1,((h2.o.below hb h4) 16 _ rfl).1,hb⟩))
  go_region_held3 (fun W=>s.K sA sn sk W wb/\W.cell? ⟨wb,13,none⟩=some (.pointer (some ⟨h,0,none⟩))/\W.cell? ⟨wb,14,none⟩=some (.slice (some ⟨g,0,none⟩) n ck)/\W.cell? ⟨wb,15,none⟩=some (.slice tA tn tc)/\W.cell? ⟨wb,16,none⟩=some (O J T)/\Below V2.heap.size V2 W)
   (((refine MK.o _ ?_);(first|(with_reducible exact fh.drew)|(go_grown;done))))
   (fail)
  all_goals(
   go_wp2_with fail
   go_meet
   exact⟨V2.heap.size,rfl,fi,by simp,Bx.new V2.drew (ZD s sA sn sk h (.slice tA tn tc) (i:Int) T) 328,by go_grown⟩)
 case rest=>
 obtain⟨q7,rfl,hT,hM,hv,h9⟩:=hcut;obtain⟨V3,hI⟩:∃ V3,V3=wc:=⟨_,rfl⟩;subst hI;have hE:=ze hv;have hj:=ze (HQ.o.below h9 hO);have he:=ze (hd.o.trans (h9.mono (by omega)));have hF:=ze (h8.o V3 he.o);have hU:=h9.size;clear hv h9 HQ h8;obtain⟨⟨x0,x1,x2,x3,x4,x5,x6,x7,x8,x9,x10,x11,x12,x13,x14,x15,x16⟩,-⟩:=hE.o.o17;obtain⟨⟨c0,c1,c2,c3,c4,c5⟩,e0,e1,e2,e3,e4,e5⟩:=hj.o.o6;clear e0 e1 e2 e3 e4 e5;go_upto_region 15 with(go_at_call 193;refine hF.o.mono ?_;rintro r w5 ⟨D,c',l',trips',L',A',n',k',S',gone,rfl,D0,D1,ht,hw,hrel,hS⟩;have h5:=ze hrel;have hB:=ze ht;have hk:=ze hw;have HS:=ze (hS.from_ he.o);have hA:=ze (fun b off(e:A'=some ⟨b,off,none⟩)=>(show b≠w.heap.size from by(rcases(hS.rb b off e).1 with h1|⟨o,h1⟩);(omega);(have:=(hc.o b o h1).2.1;omega)));have hG:=ze (fun(hp:Xh S' h w.heap.size)=>(show False from by have h1:=hS.hh.x _ (by omega) hp;have:=h0.o.hl.xlt h1;omega));have hW:=hS.but.size;have ha:=ze (hj.o.but hS.but (by omega) (fun hx=>by(rcases hx with hx|hx);(have:=(h0.o.tr.lt hx).2;omega);(have:=h0.o.hl.xlt hx;omega)));clear hrel hS ht hw c0 c1 c2 c3 c4 c5 x0 x1 x2 x3 x4 x5 x6 x7 x8 x9 x10 x11 x12 x13 x14 x15 x16;obtain⟨⟨c0,c1,c2,c3,c4,c5⟩,e0,e1,e2,e3,e4,e5⟩:=ha.o.o6);refine kx (W:=((((((w5.setCell ⟨w.heap.size,0,none⟩ (O J c'.pos)).setCell ⟨w.heap.size,1,none⟩ (O J c'.dir)).setCell ⟨w.heap.size,2,none⟩ (O J c'.mode)).setCell ⟨w.heap.size,3,none⟩ (O J c'.left)).setCell ⟨w.heap.size,4,none⟩ (.bool c'.wt)).setCell ⟨w.heap.size,5,none⟩ (.slice A' n' k'))) (fun V4=>Bx V4 w.heap.size (c'.lv (.slice A' n' k'))/\w.heap.size<V4.heap.size/\ServS base A (.slice tA tn tc) h S trips' L' l' A' n' k' S' w V4) ⟨(((((ha.o.set 0 _).set 1 _).set 2 _).set 3 _).set 4 _).set 5 _,by simp;omega,ServS.sets (q:=w.heap.size) fi hA.o hG.o (fun p hp e=>by have:=(h0.o.tr.lt hp).2;omega) [(0,O J c'.pos),(1,O J c'.dir),(2,O J c'.mode),(3,O J c'.left),(4,.bool c'.wt),(5,.slice A' n' k')] _ HS.o⟩ ?_;clear c0 c1 c2 c3 c4 c5 e0 e1 e2 e3 e4 e5 ha HS;rintro V4 ⟨hu,hV,hS⟩;have HS:=ze hS;have HF:=ze (KP (c':=c') h0.o HN.o HI.o fh hS);obtain⟨⟨y0,y1,y2,y3,y4,y5⟩,-⟩:=hu.o6;obtain⟨⟨x0,x1,x2,x3,x4,x5,x6,x7,x8,x9,x10,x11,x12,x13,x14,x15,x16⟩,-⟩:=(hg.o.but hS.but hy (fun hx=>hx.elim (fun h=>(h0.o.s3 wb h).1 rfl) h0.o.s1)).o17;have h7:=ze (h0.o.cr.but hS.but (fun p hp hx=>hx.elim (h0.o.s2 p hp).2.2 (h0.o.s2 p hp).2.1));obtain⟨r0,f0⟩:=h7.o.elem_cell zh HN.o HI.o (show 0<6 by omega) rfl;obtain⟨r1,f1⟩:=h7.o.elem_cell zh HN.o HI.o (show 1<6 by omega) rfl;obtain⟨r2,f2⟩:=h7.o.elem_cell zh HN.o HI.o (show 2<6 by omega) rfl;obtain⟨r3,f3⟩:=h7.o.elem_cell zh HN.o HI.o (show 3<6 by omega) rfl;obtain⟨r4,f4⟩:=h7.o.elem_cell zh HN.o HI.o (show 4<6 by omega) rfl;obtain⟨r5,f5⟩:=h7.o.elem_cell zh HN.o HI.o (show 5<6 by omega) rfl;have r0:V4.cell? ⟨g,i*6,none⟩=some (O J c.pos):=r0;have f0:V4.frozen? ⟨g,i*6,none⟩=false:=f0;clear x0 x1 x2 x3 x4 x5 x6 x7 x8 x9 x10 x11 x12 x13 x15 x16 hu hS;go_region
 all_goals(
  go_wp2_with fail;go_ret;exact⟨gone,⟨c',A',n',k',l'⟩,S',trips',rfl,HF.o.below fh.drew,HS.o.hh.nw,HS.o.hh.nc,⟨hk.o.1,fun h=>by(have h:c.mode=0\/c.mode=1:=h);have:=HM.o;omega,fun _ _=>⟨(h5.o.car hs).2.1.trans hB.o,by show SvX s i (c.pos/s.gap) c'.dir S S' gone;rw[(h5.o.car hs).2.1];exact hk.o⟩,fun h=>absurd ⟨HM.o,HL.o⟩ h⟩,.inr (.inr (.inr ⟨HM.o,HL.o,D,D0,D1,HS.o.hh.L▸h5.o⟩))⟩)
theorem GM(base:Nat)(s:Sc)(hs:s.ok)(sA:iX)(sn sk wb h:Nat)(w:l6)(S:HS)(g n ck:Nat)(tv:Value)(L:List Ca)(trips:List Tr)(T:Int)(i:Nat)(x:Ca)
  (H:Wd base s sA sn sk wb h w S (.slice (some ⟨g,0,none⟩) n ck) tv L trips T)(hn:L.length=n)(hnk:n<=ck)(hn1:n<=1000)(hi:L[i]?=some x)(hok:x.ok s.gap)(hm:0<=x.c.mode/\x.c.mode<=4)(hl:x.c.mode=2\/x.c.mode=3\/x.c.mode=4->1<=x.c.left/\x.c.left<=64)(hnw:S.nw<=1000000)(hid:∀ r∈x.l,0<=r.id/\r.id<trips.length)(hwid:∀ k,∀x∈S.L k,0<=x.id/\x.id<trips.length)(htl:trips.length<=10000000):
  Calls prog 143 #[.pointer (some ⟨wb,0,none⟩),O J (i:Int)] w (Uw base s sA sn sk wb h w S (.slice (some ⟨g,0,none⟩) n ck) tv L trips T i x):=by
 rcases(show x.c.mode=0\/x.c.mode=1\/(x.c.mode=2\/x.c.mode=3)\/x.c.mode=4 by omega)with h0|h0|h0|h0
 ·exact yI base s hs sA sn sk wb h w S g n ck tv L trips T i x H hn hnk hn1 hi hok (.inl h0)
 ·exact yI base s hs sA sn sk wb h w S g n ck tv L trips T i x H hn hnk hn1 hi hok (.inr h0)
 ·have h1:=hl (by omega);by_cases h2:x.c.left=1
  ·exact XC base s hs sA sn sk wb h w S g n ck tv L trips T i x H hn hnk hn1 hi hok h0 h2 hnw hid hwid htl
  ·exact XB base s hs sA sn sk wb h w S g n ck tv L trips T i x H hn hnk hn1 hi hok h0 (by omega) h1.2
 ·have h1:=hl (by omega);exact XA base s hs sA sn sk wb h w S g n ck tv L trips T i x H hn hnk hn1 hi hok h0 h1.1 h1.2
end
section
open Go.RowKit HB Go.Maps CalP CumP TabP WhenP ArrP
theorem xu{w w':l6}{B sz n:Nat}{A:iX}{xs:iZ}{X:Nat->Prop}(h:Rd w B sz A n xs)(hB:B<=w.heap.size)(hb:But X w w')(hx:∀ b off,A=some ⟨b,off,none⟩->¬ X b):Rd w' B sz A n xs:=by
 refine⟨h.1,fun hn=>?_⟩;obtain⟨b,off,h1,h2,h3⟩:=h.2 hn;exact⟨b,off,h1,h2,fun j u hu=>(vg (a:=⟨b,off+j,none⟩) (hb.block b (by omega) (hx b off h1))).trans (h3 j u hu)⟩
structure Sr where
 A:iX
 (n c x:Nat)
 m:Option Nat
 gn:Nat
abbrev UN(z:Sr):iZ:=[.slice z.A z.n z.c,.pointer (some ⟨z.x,0,none⟩)]
def Sr.blk(z:Sr)(k:Nat):Prop:=(∃off,z.A=some ⟨k,off,none⟩)\/k=z.x\/z.m=some k
theorem Sr.info:(prog.info? 111).map (fun i=>(i.zero,i.size,i.bytes))=some (some (.agg #[.slice none 0 0,.pointer none]),2,32):=by kernel_rfl
structure SOk(w:l6)(fl:Int)(g:Sg)(z:Sr):Prop where
 mn:Many g.r z.n
 rd:HB.Rd w w.heap.size 1 z.A z.n ((tb g.r z.n z.n).map (Value.int .u64))
 gd:Gd w z.x z.m z.gn (jd g.k fl fl 0)
 gn:z.gn<=400
theorem SOk.lt{w:l6}{fl:Int}{g:Sg}{z:Sr}(h:SOk w fl g z){k:Nat}(hk:z.blk k):k<w.heap.size:=by
 rcases hk with⟨off,e⟩|rfl|e
 ·obtain⟨b,o,e2,hb,-⟩:=h.rd.2 h.mn.1;rw[e]at e2;cases e2;exact hb
 ·exact h.gd.lt
 ·exact h.gd.mv.lt e
theorem SOk.but{X:Nat->Prop}{w w':l6}{fl:Int}{g:Sg}{z:Sr}(h:SOk w fl g z)(hb:But X w w')(hx:∀ k,z.blk k->¬ X k):SOk w' fl g z:=by
 have hh:w'.heap[z.x]?=w.heap[z.x]?:=hb.block z.x h.gd.lt (hx _ (.inr (.inl rfl)));exact⟨h.mn,(xu h.rd fi hb (fun b off e=>hx b (.inl ⟨off,e⟩))).mono hb.size,⟨(vg (a:=⟨z.x,0,none⟩) hh).trans h.gd.c,(xC (a:=⟨z.x,0,none⟩) hh).trans h.gd.fz,h.gd.mv.but hb (fun b e=>hx b (.inr (.inr e))),h.gd.ne⟩,h.gn⟩
abbrev qF(g:Sg):Seg:=(g.k,g.t,g.r)
theorem YA{g:Nat}{w w':l6}(hb:But (fun k=>k=g) w w')(hg:g<w.heap.size):Below g w w':=⟨hb.os,hb.tape,hb.output,hb.size,fun k hk=>hb.block k (by omega) (by omega)⟩
structure Gn(s:Sc)(sA:iX)(sn sk:Nat)(wA:iX)(wn wc:Nat)(ws:l8)(g:Nat)(v:Value)(Z:List Sr)(t a n:Nat)(w:l6):Prop where
 bx:Bx w g (s.ls sA sn sk++[.slice wA wn wc,O J a,v,O J t,O J n])
 own:Own w (g+1) 111 2 UN v Z
 lt:g<w.heap.size
 ok:∀(i:Nat)(z:Sr)(sg:Sg),Z[i]?=some z->s.segs[i]?=some sg->SOk w s.fl sg z
 len:Z.length=s.segs.length
 nb:∀ z∈Z,∀k,z.blk k->k≠g/\v.ownBlock≠some k
 sg:Sgs w g sA sn s.segs
 wd:HB.Rd w g 1 wA wn (ws.map (Value.int .u32))/\ws.length=wn
section
variable{s:Sc}{sA:iX}{sn sk:Nat}{wA:iX}{wn wc g:Nat}{ws:l8}{v:Value}{Z:List Sr}{t a n:Nat}{w w':l6}
theorem Gn.ownNe(H:Gn s sA sn sk wA wn wc ws g v Z t a n w):v.ownBlock≠some g:=fun e=>by have:=(H.own.row.lt g e).1;omega
theorem Gn.below(H:Gn s sA sn sk wA wn wc ws g v Z t a n w)(hb:Below w.heap.size w w'):Gn s sA sn sk wA wn wc ws g v Z t a n w':=
 ⟨H.bx.below hb H.lt,H.own.below hb,kK H.lt hb.size,fun i z sg hz hs=>(H.ok i z sg hz hs).but (X:=fun _=>False) (But.of_below hb) (fun _ _ h=>h),H.len,H.nb,H.sg.below (hb.mono (Vq H.lt)),⟨H.wd.1.below (hb.mono (Vq H.lt)),H.wd.2⟩⟩
theorem Gn.turn(H:Gn s sA sn sk wA wn wc ws g v Z t a n w){t' a' n':Nat}(hb:But (fun k=>k=g) w w')(hx:Bx w' g (s.ls sA sn sk++[.slice wA wn wc,O J a',v,O J t',O J n'])):Gn s sA sn sk wA wn wc ws g v Z t' a' n' w':=
 ⟨hx,H.own.but hb (fun k e=>fun e2=>H.ownNe (e2▸e)),kK H.lt hb.size,fun i z sg hz hs=>(H.ok i z sg hz hs).but hb (fun k hk e=>(H.nb z (jx hz) k hk).1 e),H.len,H.nb,H.sg.below (YA hb H.lt),⟨H.wd.1.below (YA hb H.lt),H.wd.2⟩⟩
theorem Gn.at14(H:Gn s sA sn sk wA wn wc ws g v Z t a n w)(a':Nat):Gn s sA sn sk wA wn wc ws g v Z t a' n ((w.setCell ⟨g,13,none⟩ (.slice wA wn wc)).setCell ⟨g,14,none⟩ (O J a'))/\But (fun k=>k=g) w ((w.setCell ⟨g,13,none⟩ (.slice wA wn wc)).setCell ⟨g,14,none⟩ (O J a')):=by
 have hb:But (fun k=>k=g) w ((w.setCell ⟨g,13,none⟩ (.slice wA wn wc)).setCell ⟨g,14,none⟩ (O J a')):=((But.refl (fun k=>k=g) w).set (a:=⟨g,13,none⟩) (.inl rfl) _).set (a:=⟨g,14,none⟩) (.inl rfl) _;exact⟨H.turn hb (by have:=(H.bx.set 13 (.slice wA wn wc)).set 14 (O J a');simpa using this),hb⟩
theorem Gn.at16(H:Gn s sA sn sk wA wn wc ws g v Z t a n w)(t':Nat):Gn s sA sn sk wA wn wc ws g v Z t' a n (w.setCell ⟨g,16,none⟩ (O J t'))/\But (fun k=>k=g) w (w.setCell ⟨g,16,none⟩ (O J t')):=by
 have hb:But (fun k=>k=g) w (w.setCell ⟨g,16,none⟩ (O J t')):=(But.refl (fun k=>k=g) w).set (a:=⟨g,16,none⟩) (.inl rfl) _;exact⟨H.turn hb (by have:=H.bx.set 16 (O J t');simpa using this),hb⟩
theorem Gn.at17(H:Gn s sA sn sk wA wn wc ws g v Z t a n w)(n':Nat):Gn s sA sn sk wA wn wc ws g v Z t a n' (w.setCell ⟨g,17,none⟩ (O J n'))/\But (fun k=>k=g) w (w.setCell ⟨g,17,none⟩ (O J n')):=by
 have hb:But (fun k=>k=g) w (w.setCell ⟨g,17,none⟩ (O J n')):=(But.refl (fun k=>k=g) w).set (a:=⟨g,17,none⟩) (.inl rfl) _;exact⟨H.turn hb (by have:=H.bx.set 17 (O J n');simpa using this),hb⟩
theorem Gn.cells(H:Gn s sA sn sk wA wn wc ws g v Z t a n w):(w.cell? ⟨g,8,none⟩=some (.slice sA sn sk)/\w.cell? ⟨g,10,none⟩=some (O J s.hor)/\w.cell? ⟨g,13,none⟩=some (.slice wA wn wc)/\w.cell? ⟨g,14,none⟩=some (O J a)/\w.cell? ⟨g,15,none⟩=some v/\w.cell? ⟨g,16,none⟩=some (O J t)/\w.cell? ⟨g,17,none⟩=some (O J n))/\
  (w.frozen? ⟨g,13,none⟩=false/\w.frozen? ⟨g,14,none⟩=false/\w.frozen? ⟨g,15,none⟩=false/\w.frozen? ⟨g,16,none⟩=false/\w.frozen? ⟨g,17,none⟩=false):=
 ⟨⟨(H.bx 8 _ rfl).1,(H.bx 10 _ rfl).1,(H.bx 13 _ rfl).1,(H.bx 14 _ rfl).1,(H.bx 15 _ rfl).1,(H.bx 16 _ rfl).1,(H.bx 17 _ rfl).1⟩,(H.bx 13 _ rfl).2,(H.bx 14 _ rfl).2,(H.bx 15 _ rfl).2,(H.bx 16 _ rfl).2,(H.bx 17 _ rfl).2⟩
theorem Gn.src(H:Gn s sA sn sk wA wn wc ws g v Z t a n w){i:Nat}(hi:i<Z.length):∃ q k z sg,v=.slice (some ⟨q,0,none⟩) Z.length k/\q<w.heap.size/\Z[i]?=some z/\s.segs[i]?=some sg/\SOk w s.fl sg z/\w.cell? ⟨q,i*2,none⟩=some (.slice z.A z.n z.c)/\w.cell? ⟨q,i*2+1,none⟩=some (.pointer (some ⟨z.x,0,none⟩)):=by
 obtain⟨q,k,rfl,hq,h0,hk,hc,-⟩:=H.own.at_ (by omega);have hz:Z[i]?=some Z[i]:=kD hi;have hs:s.segs[i]?=some (s.segs[i]'(by rw[<-H.len];exact hi)):=kD _;have hg:=fun j(hj:j<2)=>flat_get (f:=UN) (m:=2) (fun _=>rfl) _ i j _ hz hj
 refine⟨q,k,_,_,rfl,h0,hz,hs,H.ok i _ _ hz hs,?_,?_⟩
 ·have:=hc (i*2) (.slice (Z[i]).A (Z[i]).n (Z[i]).c) (by have:=hg 0 (by omega);simpa using this);simpa using this
 ·have:=hc (i*2+1) (.pointer (some ⟨(Z[i]).x,0,none⟩)) (by have:=hg 1 (by omega);simpa using this);simpa using this
end
theorem Hf(z:Sr):∀ u∈UN z,u.oneCell'=true:=by
 intro u hu;simp only[qx,Zl,or_false]at hu;rcases hu with rfl|rfl<;>rfl
structure GnJ(s:Sc)(sA:iX)(sn sk:Nat)(wA:iX)(wn wc:Nat)(D g:Nat)(v:Value)(Z:List Sr)(w:l6):Prop where
 bx:Bx w g (s.ls sA sn sk++[.slice wA wn wc,O J 0,v,O J 0,O J 0])
 own:Own w (g+1) 111 2 UN v Z
 lt:g<w.heap.size
 ok:∀(i:Nat)(z:Sr)(sg:Sg),Z[i]?=some z->s.segs[i]?=some sg->SOk w s.fl sg z
 len:Z.length<=s.segs.length
 nb:∀ z∈Z,∀k,z.blk k->k<w.heap.size/\k≠g/\v.ownBlock≠some k
 sb:Bx w D (s.ls sA sn sk)/\D<g
section
variable{s:Sc}{sA:iX}{sn sk:Nat}{wA:iX}{wn wc D g:Nat}{v:Value}{Z:List Sr}{w w':l6}
theorem GnJ.below(H:GnJ s sA sn sk wA wn wc D g v Z w)(hb:Below w.heap.size w w'):GnJ s sA sn sk wA wn wc D g v Z w':=
 ⟨H.bx.below hb H.lt,H.own.below hb,kK H.lt hb.size,fun i z sg hz hs=>(H.ok i z sg hz hs).but (X:=fun _=>False) (But.of_below hb) (fun _ _ h=>h),H.len,fun z hz k hk=>⟨kK (H.nb z hz k hk).1 hb.size,(H.nb z hz k hk).2⟩,H.sb.1.below hb (cU H.sb.2 H.lt),H.sb.2⟩
theorem GnJ.push(H:GnJ s sA sn sk wA wn wc D g v Z w){z:Sr}{sg:Sg}(hsg:s.segs[Z.length]?=some sg)(hz:SOk w s.fl sg z)(hb:∀ k,z.blk k->k≠g/\v.ownBlock≠some k){v':Value}(ho:Own w' (g+1) 111 2 UN v' (Z++[z]))(hg:w.grownBy w' v.ownBlock)(hv:v'.ownBlock=v.ownBlock\/v'.ownBlock=some w.heap.size):
  GnJ s sA sn sk wA wn wc D g v' (Z++[z]) (w'.setCell ⟨g,15,none⟩ v'):=by
 have h6:∀ k,v.ownBlock=some k->k≠g:=fun k e=>by have:=(H.own.row.lt k e).1;omega
 have h3:But (fun k=>v.ownBlock=some k) w w':=But.of_grown hg (fun k e=>e);have h2:But (fun k=>k=g\/v.ownBlock=some k) w (w'.setCell ⟨g,15,none⟩ v'):=(h3.mono (fun k _ h=>.inr h)).set (a:=⟨g,15,none⟩) (.inl (.inl rfl)) _;have h4:∀(y:Sr),(∀k,y.blk k->k≠g/\v.ownBlock≠some k)->∀ k,y.blk k->¬ (k=g\/v.ownBlock=some k):=fun y hy k hk h=>h.elim (hy k hk).1 (hy k hk).2
 have h5:w.heap.size<=(w'.setCell ⟨g,15,none⟩ v').heap.size:=h2.size;refine⟨?_,?_,kK H.lt h5,fun i y sg' hy hs=>?_,?_,fun y hy k hk=>?_,H.sb.1.but h2 (cU H.sb.2 H.lt) (fun h=>h.elim (fun e=>by have:=H.sb.2;omega) (fun e=>by have:=(H.own.row.lt D e).1;have:=H.sb.2;omega)),H.sb.2⟩
 ·have h1:=(H.bx.but h3 H.lt (fun e=>h6 g e rfl)).set 15 v';simpa using h1
 ·exact HB.Own.but ho (X:=fun k=>k=g) ((But.refl (fun k=>k=g) _).set (a:=⟨g,15,none⟩) (.inl rfl) _) (fun k e e2=>by have:=(ho.row.lt k e).1;omega)
 ·rw[List.getElem?_append]at hy;split at hy
  ·exact(H.ok i y sg' hy hs).but h2 (h4 y fun k hk=>(H.nb y (jx hy) k hk).2)
  ·rename_i hi;have:i-Z.length=0:=by
    rcases ZW (i-Z.length)with h0|h0
    ·exact h0
    ·rw[Y0 (by simp;omega)]at hy;cases hy
   rw[this]at hy;cases hy;have e:i=Z.length:=by omega
   rw[e,hsg]at hs;cases hs;exact hz.but h2 (h4 _ hb)
 ·have:=(qd.1 hsg).1;simp;omega
 ·have key:k<w.heap.size/\k≠g/\v.ownBlock≠some k:=by
   rcases yp.1 hy with hy|hy
   ·exact H.nb y hy k hk
   ·rw[vN.1 hy]at hk;exact⟨hz.lt hk,hb k hk⟩
  refine⟨kK key.1 h5,key.2.1,fun e=>?_⟩;rcases hv with h|h
  ·exact key.2.2 (h▸e)
  ·rw[h]at e;injection e with e;omega
end
def dP(s:Sc)(sA:iX)(sn sk:Nat)(wA:iX)(wn wc:Nat)(ws:l8)(w:l6)(e:Ending)(w':l6):Prop:=
 ∃g v Z,e=.returned (.tuple #[.pointer (some ⟨g,0,none⟩),O J 0])/\Gn s sA sn sk wA wn wc ws g v Z 0 0 0 w'/\Below w.heap.size w w'/\w.heap.size<=g
theorem Hg(s:Sc)(hs:s.ok)(hf:s.fl<=20)(sA:iX)(sn sk:Nat)(wA:iX)(wn wc:Nat)(ws:l8)(w:l6)(hg:Sgs w w.heap.size sA sn s.segs)(hw:HB.Rd w w.heap.size 1 wA wn (ws.map (Value.int .u32))/\ws.length=wn):
  Calls prog 25 #[s.v sA sn sk,.agg #[.slice wA wn wc,O J 0]] w (dP s sA sn sk wA wn wc ws w):=by
 have hU:=hs.fl;have hX:=hs.len;have HV:=ze (fun W(hb:Below w.heap.size w W)=>J7 s hs sA sn sk w.heap.size W (hg.below hb) hb.size);have HG:=ze hg;have hr:=ze hw;have H0:s.segs.length=sn:=hg.2;have hl:=ze (Bs.two w (s.ls sA sn sk) [.slice wA wn wc,O J 0] 25 32);clear hg hw
 go_in
 go_upto_region 4 with(go_at_call 47;(with_reducible refine(HV.o _ (by go_grown)).mono ?_);rintro r w1 ⟨rfl,ht⟩;have h1:=ze (hl.o.step ht);clear ht);obtain⟨⟨a0,a1,a2,a3,a4,a5,a6,a7,a8,a9,a10,a11,a12⟩,-⟩:=(h1.o.cell (q:=w.heap.size) (l:=s.ls sA sn sk) (by simp)).o13;obtain⟨⟨b0,b1⟩,-⟩:=(h1.o.cell (q:=w.heap.size+1) (l:=[.slice wA wn wc,O J 0]) (by simp)).o2;have hR:=h1.o.lt (q:=w.heap.size) (l:=s.ls sA sn sk) (by simp);have hq:=ze (show GnJ s sA sn sk wA wn wc w.heap.size w1.heap.size (.slice none 0 0) [] (w1.alloc (.cells (s.ls sA sn sk++[Value.slice wA wn wc,O J 0,.slice none 0 0,O J 0,O J 0]).toArray 78))from
  ⟨Bx.new w1 _ _,Own.nil _ _ _ _ _,by simp,fun i z sg h=>by simp at h,by simp,fun z h=>by simp at h,(h1.o.cell (q:=w.heap.size) (l:=s.ls sA sn sk) (by simp)).alloc (by simp) _,hR⟩)
 have hn:=ze (h1.o.b.alloc h1.o.b.size (.cells (s.ls sA sn sk++[Value.slice wA wn wc,O J 0,.slice none 0 0,O J 0,O J 0]).toArray 78));have hi:w.heap.size<=w1.heap.size:=h1.o.b.size;clear HV hl;go_upto_region 5 with(fail);refine zq (w:=w) (fun V=>GnJ s sA sn sk wA wn wc w.heap.size w1.heap.size (.slice none 0 0) [] V) hq.o hn.o ?_;clear hq hn h1 a0 a1 a2 a3 a4 a5 a6 a7 a8 a9 a10 a11 a12 b0 b1;generalize w1.heap.size=g at*;rintro V hj hv;have HJ:=ze hj;have h8:=ze hv;have a8:=(hj.sb.1 8 _ rfl).1;clear hj hv;go_wp2_with fail;clear a8
 go_loopw [26] (fun c wr=>∃(j:Nat)(v:Value)(Z:List Sr),c=O J j/\j<=sn/\Z.length=j/\GnJ s sA sn sk wA wn wc w.heap.size g v Z wr/\Below w.heap.size w wr) (fun c _=>sn-(intOf c).toNat)
 case atStart=>exact⟨0,_,[],rfl,vf _,rfl,HJ.o,h8.o⟩
 case round=>
  obtain⟨j,v,Z,rfl,hj,hZ,hJ,hb⟩:=hrel;have h5:=ze hJ;have HB:=ze hb;have hz:=hb.size;by_cases hP:j<sn
  ·obtain⟨sb,so,sg,rfl,hY,hc,k0,k1,k2⟩:=(HG.o.below hb).at_ hP;have hd:=hs.segs sg (jx hc);have hG:=ze hc;have i0:(0:Int)<=(j:Int):=by omega
   have i1:(j:Int)<(sn:Int):=by omega
   have a0:=(hJ.sb.1 0 _ rfl).1;have hT:=hJ.sb.2;have hV:=hJ.lt;have H1:sb<wr.heap.size:=by omega
   have hS:w.heap.size<wr.heap.size:=by omega
   clear hc hJ hb HJ h8;have hF:=ze (fun W=>US sg.r hd.r.1 hd.r.2 W);have ho:=ze (fun W=>KZ sg.k s.fl.toNat hd.k (by omega) (by omega) W);rw[show((s.fl.toNat:Nat):Int)=s.fl by omega]at ho;go_upto_region 9 with(go_at_call 48;(with_reducible refine(hF.o _).mono ?_);rintro r w2 ⟨tv,m,rfl,hm,hC,hu⟩;have HM:=ze hm;have h9:=ze hC;have h4:=ze hu;clear hm hC hu);have f0:w2.cell? ⟨wr.heap.size,0,none⟩=some (O J sg.k):=zf h4.o (by simp);have h2:=ze (((Below.refl wr.heap.size wr).alloc fi (.cells #[O J sg.k,O J sg.t,O J sg.r] 68)).trans (h4.o.mono (by simp)));have f1:w2.cell? ⟨w.heap.size,0,none⟩=some (O J s.fl):=zf h2.o a0;have H2:wr.heap.size<w2.heap.size:=by have:=h4.o.size;simp at this;omega
   have hL:w.heap.size<w2.heap.size:=by omega
   go_upto_region 10 with(go_at_call 49;(with_reducible refine(ho.o _).mono ?_);rintro r w3 ⟨x,rfl,hx,hA⟩;have HX:=ze hx;have hp:=ze hA;clear hx hA);obtain⟨⟨mm,gn,hy,hO,hB⟩,h6⟩:=hp.o;obtain⟨tA,tc,rfl,-,h7⟩:=h9.o.shape;have he:=h9.o.row.lt;rw[vr]at h7 he⊢;rw[zt]at h7;have hQ:w2.heap.size<=w3.heap.size:=h6.size;have h0:=ze (h2.o.trans (h6.mono (by omega)));have h3:=ze (h5.o.below h0.o);have hI:=ze (show SOk w3 s.fl sg ⟨tA,m,tc,x,mm,gn⟩from⟨HM.o,(h7.below h6).mono hQ,hy,hO⟩);have hE:=ze (show∀k,(⟨tA,m,tc,x,mm,gn⟩:Sr).blk k->k≠g/\v.ownBlock≠some k from fun k hk=>by
    have hW:wr.heap.size<=k:=by
     rcases hk with⟨off,e⟩|e|e
     ·have e2:tA=some ⟨k,off,none⟩:=e;subst e2;have:=(he k rfl).1;simp at this;omega
     ·have e2:k=x:=e;have:=HX.o;omega
     ·have:=hB k e;omega
    exact⟨by omega,fun e=>by have:=(h5.o.own.row.lt k e).2;omega⟩)
   have ha:g<w3.heap.size:=h3.o.lt;have hN:Z.length<=1000000000:=by omega
   have c15:=(h3.o.bx 15 _ rfl).1;have f15:=(h3.o.bx 15 _ rfl).2;have hD:v.ownBlock≠some g:=fun e=>by have:=(h3.o.own.row.lt g e).1;omega
   clear hy h6 h7 he hB h9 HX hp h5 f0 f1 k0 k1 k2 a0 h4 h2 HM;go_wp2_with(at_builtin;refine kG (P:=prog) rfl _ _ 76 rfl underlying76 Sr.info rfl (by omega) (by omega) rfl (h3.o.own.alloc _) (⟨tA,m,tc,x,mm,gn⟩:Sr) ⟨_,0,none⟩ 1 rfl rfl (zr _ _ (UN ⟨tA,m,tc,x,mm,gn⟩) _ rfl) (Hf _) hN (by simp;omega) ?_;intro v' w8 k1 k2 k3;obtain⟨vA,vL,vc,rfl⟩:∃ vA vL vc,v'=.slice vA vL vc:=(let⟨A,c,e,_⟩:=k1.shape;⟨A,_,c,e⟩);have K1:=ze k1;have K2:=ze k2;have K3:=ze k3;have d15:w8.cell? ⟨g,15,none⟩=some v:=((vg (a:=⟨g,15,none⟩) (k2.block g (by simp;omega) (fun e=>hD e.symm))).trans (zf ((Below.refl w3.heap.size w3).alloc fi _) c15));have e15:w8.frozen? ⟨g,15,none⟩=false:=((xC (a:=⟨g,15,none⟩) (k2.block g (by simp;omega) (fun e=>hD e.symm))).trans (((Below.refl w3.heap.size w3).alloc fi _).frozen (p:=⟨g,15,none⟩) ha |>.trans f15));clear k1 k2 k3);go_roundw
   case rel=>
    have hM:=(h3.o.below ((Below.refl _ w3).alloc fi _)).push (by rw[hZ];exact hG.o) (hI.o.but (X:=fun _=>False) (But.of_below ((Below.refl _ w3).alloc fi _)) (fun _ _ h=>h)) hE.o K1.o K2.o K3.o;exact⟨j+1,_,_,by go_num,by omega,by simp[hZ],hM,(((HB.o.trans (h0.o.mono hz)).alloc (show w.heap.size<=w3.heap.size by have:=h0.o.size;omega) _).grown K2.o (by simp;have:=h0.o.size;omega) (fun k hk=>by have:=(h3.o.own.row.lt k hk).1;omega)).setCell (p:=⟨g,15,none⟩) (by show w.heap.size<=g;omega) _⟩
   case measure=>simp[intOf];omega
  ·obtain rfl:j=sn:=by omega
   have HF:=ze (show Gn s sA j sk wA wn wc ws g v Z 0 0 0 wr from⟨hJ.bx,hJ.own,hJ.lt,hJ.ok,by omega,fun z hz k hk=>(hJ.nb z hz k hk).2,(HG.o.below hb).mono hi,(hr.o.1.below hb).mono hi,hr.o.2⟩);clear hJ hb HJ h8 h5;go_wp2_with fail;go_ret2;exact⟨g,v,Z,rfl,HF.o,HB.o,hi⟩
end
end Go.Proofs.YtdeogmbfgkepeaaGreatDoor
