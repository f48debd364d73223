/- Contracts for WholeDelivers. -/
import Derived.Test.YtdeogmbfgkepeaaGreatDoorR42
set_option linter.unusedVariables false
set_option linter.unusedSimpArgs false
set_option maxRecDepth 100000
set_option maxHeartbeats 64000000
namespace Go.Proofs.YtdeogmbfgkepeaaGreatDoor
open Go.Proofs.Tryz
open Go.Value renaming int->O
open Go.IntKind renaming i64->J,u64->U
section
open Go.RowKit HB Go.Maps CalP
theorem yI(base:Nat)(s:Sc)(hs:s.ok)(sA:iX)(sn sk wb h:Nat)(w:l6)(S:HS)(g n ck:Nat)(tv:Value)(L:List Ca)(trips:List Tr)(T:Int)(i:Nat)(x:Ca)
  (H:Wd base s sA sn sk wb h w S (.slice (some ⟨g,0,none⟩) n ck) tv L trips T)(hn:L.length=n)(hnk:n<=ck)(hn1:n<=1000)(hi:L[i]?=some x)(hok:x.ok s.gap)(hm:x.c.mode=0\/x.c.mode=1):
  Calls prog 143 #[.pointer (some ⟨wb,0,none⟩),O J (i:Int)] w (Uw base s sA sn sk wb h w S (.slice (some ⟨g,0,none⟩) n ck) tv L trips T i x):=by
 have hr:=ze H;have HI:=ze hi;have HN:=ze hn;have hQ:i<n:=by have:=(qd.1 hi).1;omega
 have hJ:=ze (H.ri x (jx hi)).1;have ht:=ze H.bx;have hB:=H.bx.lt (by simp);have hM:=(H.cr.lt (k:=g) rfl).2;have p0:=hok.p0;have p1:=hok.p1;have d0:=hok.d0;have d1:=hok.d1;have n1:=hok.n1;have b0:=H.cr.elem_cell zh hn hi (show 0<6 by omega) rfl;have b1:=(H.cr.elem_cell zh hn hi (show 1<6 by omega) rfl).1;have b2:=(H.cr.elem_cell zh hn hi (show 2<6 by omega) rfl).1;have b3:=(H.cr.elem_cell zh hn hi (show 3<6 by omega) rfl).1;have b4:=(H.cr.elem_cell zh hn hi (show 4<6 by omega) rfl).1;have b5:=(H.cr.elem_cell zh hn hi (show 5<6 by omega) rfl).1;have b0:w.cell? ⟨g,i*6,none⟩=some (O J x.c.pos):=b0.1;have i0:(0:Int)<=(i:Int):=by omega
 have i1:(i:Int)<(n:Int):=by omega
 obtain⟨c,A,rn,rk,l⟩:=x;obtain⟨⟨x0,x1,x2,x3,x4,x5,x6,x7,x8,x9,x10,x11,x12,x13,x14,x15,x16⟩,-⟩:=H.bx.o17;clear x0 x1 x2 x3 x4 x5 x6 x7 x8 x9 x10 x11 x12 x13 x15 x16;have hN:i<=n:=by omega
 have hP:=hM;simp only at hm p0 p1 d0 d1 n1 b0 b1 b2 b3 b4 b5;clear H hi hn hok;have HM:=ze hm;rcases hm with hm|hm
 all_goals
  first|(have m0:(c.mode==0)=true:=Y7 hm)|(have m0:(c.mode==0)=false:=Ke (by omega))
  first|(have m1:(c.mode==1)=true:=Y7 hm)|(have m1:(c.mode==1)=false:=Ke (by omega))
  have m4:(c.mode==4)=false:=Ke (by omega);clear hm;have hu:=ze (fun d(hd:d=1\/d=-1) W(hb:Below w.heap.size w W)=>qv h S (i:Int) d W (hr.o.hl.below hb) hd (zQ (by omega) (by omega)));have hC:=ze (fun m0 m1 u0 u1(hx:SetOf m0 m1 (Ld S.fc S.fw (i:Int) 1))(hy:SetOf u0 u1 (Ld S.fc S.fw (i:Int) (-1))) W(hb:Below w.heap.size w W)=>Us s hs sA sn sk c A rn rk w.heap.size l m0 m1 u0 u1 W (hJ.o.below hb) hb.size (by omega) p0 p1 d0 d1 (P:=Ld S.fc S.fw (i:Int)) hx hy)
  go_in
  go_upto_region 2 with(fail);refine zq (w:=w) (fun V=>Bx V w.heap.size (c.lv (.slice A rn rk))/\w.heap.size<V.heap.size) ⟨Bx.new w (c.lv (.slice A rn rk)) 265,by simp⟩ ((Below.refl w.heap.size w).alloc fi _) ?_;rintro V ⟨hq,hO⟩ hF;have HQ:=ze hq;have hI:=ze hF;obtain⟨⟨c0,c1,c2,c3,c4,c5⟩,e0,e1,e2,e3,e4,e5⟩:=HQ.o.o6;clear hq hF b0 b1 b2 b3 b4 b5 x14;have hE:=ze HQ.o;have hz:=ze hO;clear HQ;go_upto_region 10 with(fail);have SB:=ze (fun W(h:s.K sA sn sk W wb/\W.cell? ⟨wb,13,none⟩=some (.pointer (some ⟨h,0,none⟩))/\Below w.heap.size w W)=>(show Below w.heap.size w W from h.2.2));have MK:=ze (fun W(hb:Below w.heap.size w W)=>(show s.K sA sn sk W wb/\W.cell? ⟨wb,13,none⟩=some (.pointer (some ⟨h,0,none⟩))/\Below w.heap.size w W from⟨(ht.o.below hb hB).k13 rfl,((ht.o.below hb hB) 13 _ rfl).1,hb⟩));refine wp_region_held_drew (S:=(fun W=>s.K sA sn sk W wb/\W.cell? ⟨wb,13,none⟩=some (.pointer (some ⟨h,0,none⟩))/\Below w.heap.size w W)) (by kernel_rfl) ?_ (fun hHeld=>?_)
  ·exact MK.o _ hI.o.drew
  refine qK [0,1,2,3,5,6,7,8,9,11,12,13,14,15] (by simp[zl];rfl) (by kernel_rfl) (by assumption) ?_
  iterate 14 (refine qz (v:=?_) (fun _ _ _ h=>h) (by rfl) ?_ ?_;rotate_left;(next=>((intro w hL;(try dsimp only at hL);go_simp);(try with_reducible rfl)));try go_frame)
  refine qL ?_;refine jj [4,10] (by kernel_rfl) ?_;refine j6 (by simp[zl];rfl) rfl (fun K hK=>?_) ?_
  ·go_simp;refine hK.out _ _ ?_ (fun hHeld=>?_)
   ·exact hHeld
   clear hK K
   try go_frame
   refine jj [10] (by kernel_rfl) ?_;refine j6 (by simp[zl];rfl) rfl (fun K hK=>?_) ym;go_simp;have h0:=SB.o _ hHeld;go_at_call 192;(with_reducible refine(hu.o 1 (.inl rfl) _ h0).mono ?_);rintro r wA ⟨⟨m0,m1,rfl,hA⟩,h1⟩;have hf:=ze hA;clear hA;have hp:=ze (h0.trans (h1.mono h0.size));have h8:=ze (hE.o.drew.below h1 hz.o);have ha:=ze (h8.o.lt (by simp));clear h1 h0 hHeld;(try clear c0 c1 c2 c3 c4 c5 e0 e1 e2 e3 e4 e5);obtain⟨⟨c0,c1,c2,c3,c4,c5⟩,e0,e1,e2,e3,e4,e5⟩:=h8.o.o6
   refine hK.out _ _ ?_ (fun hHeld=>?_)
   ·exact MK.o _ hp.o
   clear hK K
   try go_frame
   refine jj [16] (by kernel_rfl) ?_;refine j6 (by simp[zl];rfl) rfl (fun K hK=>?_) ym;go_simp;have h0:=SB.o _ hHeld;go_at_call 192;(with_reducible refine(hu.o (-1) (.inr rfl) _ h0).mono ?_);rintro r wB ⟨⟨u0,u1,rfl,ho⟩,h1⟩;have he:=ze ho;clear ho;have hc:=ze (h0.trans (h1.mono h0.size));have h3:=ze (h8.o.below h1 ha.o);have h6:=ze (h3.o.lt (by simp));clear h1 h0 hHeld;(try clear c0 c1 c2 c3 c4 c5 e0 e1 e2 e3 e4 e5);obtain⟨⟨c0,c1,c2,c3,c4,c5⟩,e0,e1,e2,e3,e4,e5⟩:=h3.o.o6
   refine hK.out _ _ ?_ (fun hHeld=>?_)
   ·exact MK.o _ hc.o
   clear hK K
   try go_frame
   refine jj [17] (by kernel_rfl) ?_;refine j6 (by simp[zl];rfl) rfl (fun K hK=>?_) ym;go_simp;have h0:=SB.o _ hHeld;go_at_call 191;(with_reducible refine(hC.o m0 m1 u0 u1 hf.o he.o _ h0).mono ?_);rintro r wC ⟨⟨c',rfl,hg,hj⟩,h1⟩;have hv:=ze hg;have hw:=ze hj;clear hg hj;have h2:=ze (h0.trans (h1.mono h0.size));have h4:=ze (h3.o.below h1 h6.o);have h7:=ze (h4.o.lt (by simp));clear h1 h0 hHeld;(try clear c0 c1 c2 c3 c4 c5 e0 e1 e2 e3 e4 e5);obtain⟨⟨c0,c1,c2,c3,c4,c5⟩,e0,e1,e2,e3,e4,e5⟩:=h4.o.o6
   refine hK.out _ _ ?_ (fun hHeld=>?_)
   ·exact MK.o _ h2.o
   clear hK K
   try go_frame
   refine jj [18] (by kernel_rfl) ?_;refine j6 (by simp[zl];rfl) rfl (fun K hK=>?_) ym;go_simp;refine hK.out _ _ ?_ (fun hHeld=>?_)
   ·exact MK.o _ (kW h2.o fi _ _ _ _ _ _)
   clear hK K
   try go_frame
   refine wpAnyH_done (by kernel_rfl) ?_ _;refine qj (w:=w) (W:=((((((wC.setCell ⟨w.heap.size,0,none⟩ (O J c'.pos)).setCell ⟨w.heap.size,1,none⟩ (O J c'.dir)).setCell ⟨w.heap.size,2,none⟩ (O J c'.mode)).setCell ⟨w.heap.size,3,none⟩ (O J c'.left)).setCell ⟨w.heap.size,4,none⟩ (.bool c'.wt)).setCell ⟨w.heap.size,5,none⟩ (.slice A rn rk))) (fun V3=>Bx V3 w.heap.size (Cr.lv c' (.slice A rn rk))/\w.heap.size<V3.heap.size) ⟨((((((h4.o.set 0 _).set 1 _).set 2 _).set 3 _).set 4 _).set 5 _),by simpa using h7.o⟩ (kW h2.o fi _ _ _ _ _ _) ?_;clear c0 c1 c2 c3 c4 c5 e0 e1 e2 e3 e4 e5;rintro V3 ⟨hk,hG⟩ h9;have hD:=ze h9;have HF:=ze (ky (c':=c') hr.o HN.o HI.o h9);obtain⟨⟨y0,y1,y2,y3,y4,y5⟩,-⟩:=hk.o6;obtain⟨⟨x0,x1,x2,x3,x4,x5,x6,x7,x8,x9,x10,x11,x12,x13,x14,x15,x16⟩,-⟩:=(ht.o.below h9 hB).o17;have h5:=ze (hr.o.cr.below h9);obtain⟨r0,f0⟩:=h5.o.elem_cell zh HN.o HI.o (show 0<6 by omega) rfl;obtain⟨r1,f1⟩:=h5.o.elem_cell zh HN.o HI.o (show 1<6 by omega) rfl;obtain⟨r2,f2⟩:=h5.o.elem_cell zh HN.o HI.o (show 2<6 by omega) rfl;obtain⟨r3,f3⟩:=h5.o.elem_cell zh HN.o HI.o (show 3<6 by omega) rfl;obtain⟨r4,f4⟩:=h5.o.elem_cell zh HN.o HI.o (show 4<6 by omega) rfl;obtain⟨r5,f5⟩:=h5.o.elem_cell zh HN.o HI.o (show 5<6 by omega) rfl;have r0:V3.cell? ⟨g,i*6,none⟩=some (O J c.pos):=r0;have f0:V3.frozen? ⟨g,i*6,none⟩=false:=f0;clear x0 x1 x2 x3 x4 x5 x6 x7 x8 x9 x10 x11 x12 x13 x15 x16 hk h9;go_wp2_with fail;go_region
   all_goals(
    go_wp2_with fail;go_ret;exact⟨false,⟨c',A,rn,rk,l⟩,S,trips,rfl,HF.o.below fh.drew,by omega,by omega,⟨fun h=>h,fun _=>hw.o,fun h=>by(have h:c.mode=2\/c.mode=3:=h);have:=HM.o;omega,fun _=>⟨rfl,rfl⟩⟩,.inl ⟨HM.o,hv.o,rfl,rfl,rfl⟩⟩)
  refine j6 (by simp[zl];rfl) rfl (fun K hK=>?_) ym;go_simp;have h0:=SB.o _ hHeld;go_at_call 192;(with_reducible refine(hu.o 1 (.inl rfl) _ h0).mono ?_);rintro r wA ⟨⟨m0,m1,rfl,hA⟩,h1⟩;have hf:=ze hA;clear hA;have hp:=ze (h0.trans (h1.mono h0.size));have h8:=ze (hE.o.drew.below h1 hz.o);have ha:=ze (h8.o.lt (by simp));clear h1 h0 hHeld;(try clear c0 c1 c2 c3 c4 c5 e0 e1 e2 e3 e4 e5);obtain⟨⟨c0,c1,c2,c3,c4,c5⟩,e0,e1,e2,e3,e4,e5⟩:=h8.o.o6
  refine hK.out _ _ ?_ (fun hHeld=>?_)
  ·exact MK.o _ hp.o
  clear hK K
  try go_frame
  refine jj [4,16] (by kernel_rfl) ?_;refine j6 (by simp[zl];rfl) rfl (fun K hK=>?_) ?_
  ·go_simp;refine hK.out _ _ ?_ (fun hHeld=>?_)
   ·exact hHeld
   clear hK K
   try go_frame
   refine jj [16] (by kernel_rfl) ?_;refine j6 (by simp[zl];rfl) rfl (fun K hK=>?_) ym;go_simp;have h0:=SB.o _ hHeld;go_at_call 192;(with_reducible refine(hu.o (-1) (.inr rfl) _ h0).mono ?_);rintro r wB ⟨⟨u0,u1,rfl,ho⟩,h1⟩;have he:=ze ho;clear ho;have hc:=ze (h0.trans (h1.mono h0.size));have h3:=ze (h8.o.below h1 ha.o);have h6:=ze (h3.o.lt (by simp));clear h1 h0 hHeld;(try clear c0 c1 c2 c3 c4 c5 e0 e1 e2 e3 e4 e5);obtain⟨⟨c0,c1,c2,c3,c4,c5⟩,e0,e1,e2,e3,e4,e5⟩:=h3.o.o6
   refine hK.out _ _ ?_ (fun hHeld=>?_)
   ·exact MK.o _ hc.o
   clear hK K
   try go_frame
   refine jj [17] (by kernel_rfl) ?_;refine j6 (by simp[zl];rfl) rfl (fun K hK=>?_) ym;go_simp;have h0:=SB.o _ hHeld;go_at_call 191;(with_reducible refine(hC.o m0 m1 u0 u1 hf.o he.o _ h0).mono ?_);rintro r wC ⟨⟨c',rfl,hg,hj⟩,h1⟩;have hv:=ze hg;have hw:=ze hj;clear hg hj;have h2:=ze (h0.trans (h1.mono h0.size));have h4:=ze (h3.o.below h1 h6.o);have h7:=ze (h4.o.lt (by simp));clear h1 h0 hHeld;(try clear c0 c1 c2 c3 c4 c5 e0 e1 e2 e3 e4 e5);obtain⟨⟨c0,c1,c2,c3,c4,c5⟩,e0,e1,e2,e3,e4,e5⟩:=h4.o.o6
   refine hK.out _ _ ?_ (fun hHeld=>?_)
   ·exact MK.o _ h2.o
   clear hK K
   try go_frame
   refine jj [18] (by kernel_rfl) ?_;refine j6 (by simp[zl];rfl) rfl (fun K hK=>?_) ym;go_simp;refine hK.out _ _ ?_ (fun hHeld=>?_)
   ·exact MK.o _ (kW h2.o fi _ _ _ _ _ _)
   clear hK K
   try go_frame
   refine wpAnyH_done (by kernel_rfl) ?_ _;refine qj (w:=w) (W:=((((((wC.setCell ⟨w.heap.size,0,none⟩ (O J c'.pos)).setCell ⟨w.heap.size,1,none⟩ (O J c'.dir)).setCell ⟨w.heap.size,2,none⟩ (O J c'.mode)).setCell ⟨w.heap.size,3,none⟩ (O J c'.left)).setCell ⟨w.heap.size,4,none⟩ (.bool c'.wt)).setCell ⟨w.heap.size,5,none⟩ (.slice A rn rk))) (fun V3=>Bx V3 w.heap.size (Cr.lv c' (.slice A rn rk))/\w.heap.size<V3.heap.size) ⟨((((((h4.o.set 0 _).set 1 _).set 2 _).set 3 _).set 4 _).set 5 _),by simpa using h7.o⟩ (kW h2.o fi _ _ _ _ _ _) ?_;clear c0 c1 c2 c3 c4 c5 e0 e1 e2 e3 e4 e5;rintro V3 ⟨hk,hG⟩ h9;have hD:=ze h9;have HF:=ze (ky (c':=c') hr.o HN.o HI.o h9);obtain⟨⟨y0,y1,y2,y3,y4,y5⟩,-⟩:=hk.o6;obtain⟨⟨x0,x1,x2,x3,x4,x5,x6,x7,x8,x9,x10,x11,x12,x13,x14,x15,x16⟩,-⟩:=(ht.o.below h9 hB).o17;have h5:=ze (hr.o.cr.below h9);obtain⟨r0,f0⟩:=h5.o.elem_cell zh HN.o HI.o (show 0<6 by omega) rfl;obtain⟨r1,f1⟩:=h5.o.elem_cell zh HN.o HI.o (show 1<6 by omega) rfl;obtain⟨r2,f2⟩:=h5.o.elem_cell zh HN.o HI.o (show 2<6 by omega) rfl;obtain⟨r3,f3⟩:=h5.o.elem_cell zh HN.o HI.o (show 3<6 by omega) rfl;obtain⟨r4,f4⟩:=h5.o.elem_cell zh HN.o HI.o (show 4<6 by omega) rfl;obtain⟨r5,f5⟩:=h5.o.elem_cell zh HN.o HI.o (show 5<6 by omega) rfl;have r0:V3.cell? ⟨g,i*6,none⟩=some (O J c.pos):=r0;have f0:V3.frozen? ⟨g,i*6,none⟩=false:=f0;clear x0 x1 x2 x3 x4 x5 x6 x7 x8 x9 x10 x11 x12 x13 x15 x16 hk h9;go_wp2_with fail;go_region
   all_goals(
    go_wp2_with fail;go_ret;exact⟨false,⟨c',A,rn,rk,l⟩,S,trips,rfl,HF.o.below fh.drew,by omega,by omega,⟨fun h=>h,fun _=>hw.o,fun h=>by(have h:c.mode=2\/c.mode=3:=h);have:=HM.o;omega,fun _=>⟨rfl,rfl⟩⟩,.inl ⟨HM.o,hv.o,rfl,rfl,rfl⟩⟩)
  refine j6 (by simp[zl];rfl) rfl (fun K hK=>?_) ym;go_simp;have h0:=SB.o _ hHeld;go_at_call 192;(with_reducible refine(hu.o (-1) (.inr rfl) _ h0).mono ?_);rintro r wB ⟨⟨u0,u1,rfl,ho⟩,h1⟩;have he:=ze ho;clear ho;have hc:=ze (h0.trans (h1.mono h0.size));have h3:=ze (h8.o.below h1 ha.o);have h6:=ze (h3.o.lt (by simp));clear h1 h0 hHeld;(try clear c0 c1 c2 c3 c4 c5 e0 e1 e2 e3 e4 e5);obtain⟨⟨c0,c1,c2,c3,c4,c5⟩,e0,e1,e2,e3,e4,e5⟩:=h3.o.o6
  refine hK.out _ _ ?_ (fun hHeld=>?_)
  ·exact MK.o _ hc.o
  clear hK K
  try go_frame
  refine jj [4] (by kernel_rfl) ?_;refine j6 (by simp[zl];rfl) rfl (fun K hK=>?_) ym;go_simp;refine hK.out _ _ ?_ (fun hHeld=>?_)
  ·exact hHeld
  clear hK K
  try go_frame
  refine jj [17] (by kernel_rfl) ?_;refine j6 (by simp[zl];rfl) rfl (fun K hK=>?_) ym;go_simp;have h0:=SB.o _ hHeld;go_at_call 191;(with_reducible refine(hC.o m0 m1 u0 u1 hf.o he.o _ h0).mono ?_);rintro r wC ⟨⟨c',rfl,hg,hj⟩,h1⟩;have hv:=ze hg;have hw:=ze hj;clear hg hj;have h2:=ze (h0.trans (h1.mono h0.size));have h4:=ze (h3.o.below h1 h6.o);have h7:=ze (h4.o.lt (by simp));clear h1 h0 hHeld;(try clear c0 c1 c2 c3 c4 c5 e0 e1 e2 e3 e4 e5);obtain⟨⟨c0,c1,c2,c3,c4,c5⟩,e0,e1,e2,e3,e4,e5⟩:=h4.o.o6
  refine hK.out _ _ ?_ (fun hHeld=>?_)
  ·exact MK.o _ h2.o
  clear hK K
  try go_frame
  refine jj [18] (by kernel_rfl) ?_;refine j6 (by simp[zl];rfl) rfl (fun K hK=>?_) ym;go_simp;refine hK.out _ _ ?_ (fun hHeld=>?_)
  ·exact MK.o _ (kW h2.o fi _ _ _ _ _ _)
  clear hK K
  try go_frame
  refine wpAnyH_done (by kernel_rfl) ?_ _;refine qj (w:=w) (W:=((((((wC.setCell ⟨w.heap.size,0,none⟩ (O J c'.pos)).setCell ⟨w.heap.size,1,none⟩ (O J c'.dir)).setCell ⟨w.heap.size,2,none⟩ (O J c'.mode)).setCell ⟨w.heap.size,3,none⟩ (O J c'.left)).setCell ⟨w.heap.size,4,none⟩ (.bool c'.wt)).setCell ⟨w.heap.size,5,none⟩ (.slice A rn rk))) (fun V3=>Bx V3 w.heap.size (Cr.lv c' (.slice A rn rk))/\w.heap.size<V3.heap.size) ⟨((((((h4.o.set 0 _).set 1 _).set 2 _).set 3 _).set 4 _).set 5 _),by simpa using h7.o⟩ (kW h2.o fi _ _ _ _ _ _) ?_;clear c0 c1 c2 c3 c4 c5 e0 e1 e2 e3 e4 e5;rintro V3 ⟨hk,hG⟩ h9;have hD:=ze h9;have HF:=ze (ky (c':=c') hr.o HN.o HI.o h9);obtain⟨⟨y0,y1,y2,y3,y4,y5⟩,-⟩:=hk.o6;obtain⟨⟨x0,x1,x2,x3,x4,x5,x6,x7,x8,x9,x10,x11,x12,x13,x14,x15,x16⟩,-⟩:=(ht.o.below h9 hB).o17;have h5:=ze (hr.o.cr.below h9);obtain⟨r0,f0⟩:=h5.o.elem_cell zh HN.o HI.o (show 0<6 by omega) rfl;obtain⟨r1,f1⟩:=h5.o.elem_cell zh HN.o HI.o (show 1<6 by omega) rfl;obtain⟨r2,f2⟩:=h5.o.elem_cell zh HN.o HI.o (show 2<6 by omega) rfl;obtain⟨r3,f3⟩:=h5.o.elem_cell zh HN.o HI.o (show 3<6 by omega) rfl;obtain⟨r4,f4⟩:=h5.o.elem_cell zh HN.o HI.o (show 4<6 by omega) rfl;obtain⟨r5,f5⟩:=h5.o.elem_cell zh HN.o HI.o (show 5<6 by omega) rfl;have r0:V3.cell? ⟨g,i*6,none⟩=some (O J c.pos):=r0;have f0:V3.frozen? ⟨g,i*6,none⟩=false:=f0;clear x0 x1 x2 x3 x4 x5 x6 x7 x8 x9 x10 x11 x12 x13 x15 x16 hk h9;go_wp2_with fail;go_region
  all_goals(
   go_wp2_with fail;go_ret;exact⟨false,⟨c',A,rn,rk,l⟩,S,trips,rfl,HF.o.below fh.drew,by omega,by omega,⟨fun h=>h,fun _=>hw.o,fun h=>by(have h:c.mode=2\/c.mode=3:=h);have:=HM.o;omega,fun _=>⟨rfl,rfl⟩⟩,.inl ⟨HM.o,hv.o,rfl,rfl,rfl⟩⟩)
theorem UB(s:Sc)(hs:s.ok)(sA:iX)(sn sk:Nat)(h:Nat)(tA:iX)(tn tc:Nat)(I T:Int)(base:Nat)(c:Cr)(A:iX)(n k B:Nat)(l:List Rid)(trips:List Tr)(S:HS)(w:l6)
  (hr:Rds w B A n l)(hB:B<=w.heap.size)(hn:n<=1000)(hnk:n<=k)(H:Hl w h S)(hnw:S.nw<=1000000)(hXR:∀ b off,A=some ⟨b,off,none⟩->¬ Xh S h b)(ht:Own w base 87 7 kN (.slice tA tn tc) trips)(hXT:∀ q,(Value.slice tA tn tc).ownBlock=some q->¬ Xh S h q)
  (hid:∀ r∈l,0<=r.id/\r.id<trips.length)(hwid:∀ k,∀x∈S.L k,0<=x.id/\x.id<trips.length)(htl:trips.length<=10000000)(hI:0<=I)(hI1:I<=1000)(p0:0<=c.pos)(p1:c.pos<=127*s.gap)(d0: -1<=c.dir)(d1:c.dir<=1)(hAx:∀ b off,A=some ⟨b,off,none⟩->b<w.heap.size)(hex:∃ r∈l,r.to_=c.pos/s.gap):
  Calls prog 193 #[aj s sA sn sk h (.slice tA tn tc) I T,c.v A n k] w (Gz s I (c.pos/s.gap) T c l trips base A (.slice tA tn tc) h S w):=by
 have g0:=hs.gap.1;have g1:=hs.gap.2;have h8:=dv c.pos s.gap g0 g1 p0 p1;have a0:=h8.rng g0 g1;generalize hf:c.pos/s.gap=f at*;have hF:=ze hex;clear hex;generalize c.pos%s.gap=r at*;have HF:=ze (fun V=>jB c.pos s.gap f r V h8.e h8.f0 h8.r0 h8.r1 (by omega));have HQ:=h8.f0;have HU:=h8.f1;have hU:=ze H;have HH:=ze (fun p(hp:Xh S h p)=>H.xlt hp);have HR:=ze hr;have a7:=ze hAx;have HT:=ze ht;have hu:=ze (fun p hp=>(ht.row.lt p hp).2);have a9:=ze hXR;have HI:=ze hXT;have Hq:=ze hid;have HE:=ze hwid;have H5:=hr.2;have a8:=ze H5;clear h8 a0 H hAx hr ht hXR hXT hid hwid H5 hf g0 g1
 go_in
 go_upto_region 1 with(fail);refine zq (w:=w) (fun V=>(Bx V w.heap.size (ZD s sA sn sk h (.slice tA tn tc) I T)/\Bx V (w.heap.size+1) (c.lv (.slice A n k))/\Bx V (w.heap.size+1+1) [O J 0,O J 0,O J 0,O J 0,.bool false,.slice none 0 0])/\w.heap.size+1+1<V.heap.size) ⟨by
  have h3:=Bs.three w (ZD s sA sn sk h (.slice tA tn tc) I T) (c.lv (.slice A n k)) [O J 0,O J 0,O J 0,O J 0,.bool false,.slice none 0 0] 328 265 265;exact⟨h3.cell (by simp),h3.cell (by simp),h3.cell (by simp)⟩,by simp⟩ (by go_grown) ?_
 rintro V ⟨⟨hx,hc,hz⟩,hD⟩ h7;have HX:=ze hx;have HC:=ze hc;have HZ:=ze hz;have h4:=ze h7;have h9:w.heap.size<V.heap.size:=by omega
 have hv:w.heap.size+1<V.heap.size:=by omega
 clear hx hc hz h7;obtain⟨⟨c0,c1,c2,c3,c4,c5⟩,-⟩:=HC.o.o6;obtain⟨⟨x0,x1,x2,x3,x4,x5,x6,x7,x8,x9,x10,x11,x12,x13,x14,x15,x16⟩,-⟩:=HX.o.o17;clear c1 c2 c3 c4 c5 x0 x2 x3 x4 x5 x6 x7 x8 x9 x10 x11 x12 x13 x14 x15 x16;go_upto_region 2 with(go_at_call 227;refine(HF.o _).mono ?_;rintro e w1 ⟨rfl,m,rfl⟩);clear c0 x1 HF;generalize hC:w.heap.size=q at*;have HA:=ze hC;refine zq (w:=V) (fun V1=>(Bx V1 q (ZD s sA sn sk h (.slice tA tn tc) I T)/\Bx V1 (q+1) (c.lv (.slice A n k))/\Bx V1 (q+1+1) [O J 0,O J 0,O J 0,O J 0,.bool false,.slice none 0 0])/\q+1+1<V1.heap.size) ⟨⟨HX.o.drewN m,HC.o.drewN m,HZ.o.drewN m⟩,by simpa using hD⟩ (zg fh _) ?_;have ha:=ze h4.o;clear HX HC HZ hD h9 hv h4;rintro V1 ⟨⟨hx,hc,hz⟩,hD⟩ h7;have HX:=ze hx;have HC:=ze hc;have HZ:=ze hz;have h4:=ze (show Below w.heap.size w V1 from(hC▸ha.o:Below w.heap.size w V).trans (h7.mono (by have:=ha.o.size;omega)));have h9:q<V1.heap.size:=by omega
 have hv:q+1<V1.heap.size:=by omega
 have hR:w.heap.size<=V1.heap.size:=by omega
 have hG:=ze (fun d(hd:d=1\/d=-1) W(hb:Below V1.heap.size V1 W)=>qv h S I d W (hU.o.below (h4.o.trans (hb.mono hR))) hd (zQ (by omega) (by omega)));have hq:=ze (fun x0 x1 y0 y1(hx:SetOf x0 x1 (Ld S.fc S.fw I 1))(hy:SetOf y0 y1 (Ld S.fc S.fw I (-1))) W(hb:Below V1.heap.size V1 W)=>kU c A n k B l s.cap x0 x1 y0 y1 W (HR.o.below ((h4.o.trans (hb.mono hR)).mono (hC▸hB))) (by have:=hb.size;omega) (by omega) (P:=Ld S.fc S.fw I) hx hy);clear hx hc hz h7 ha;have a1:w.heap.size<=q:=by omega
 have a2:q<=w.heap.size:=by omega
 clear hC
 go_cut [8] (fun v wx=>∃(q3:Nat)(a b cc dd ee gg:Int),v=.pointer (some ⟨q3,0,none⟩)/\Sees (yy s.cap l (Ld S.fc S.fw I)) l a b cc dd ee gg/\V1.heap.size<=q3/\q3<wx.heap.size/\Bx wx q3 [O U a,O U b,O U cc,O U dd,O U ee,O U gg]/\Below V1.heap.size V1 wx)
 case first=>
  as_aux_lemma=>
   have MK:=ze (fun W(hb:Below V1.heap.size V1 W)=>(show W.cell? ⟨q,3,none⟩=some (O J s.cap)/\W.cell? ⟨q,13,none⟩=some (.pointer (some ⟨h,0,none⟩))/\W.cell? ⟨q,15,none⟩=some (O J I)/\c.K A n k W (q+1)/\Below V1.heap.size V1 W from⟨((HX.o.below hb h9) 3 _ rfl).1,((HX.o.below hb h9) 13 _ rfl).1,((HX.o.below hb h9) 15 _ rfl).1,(HC.o.below hb hv).k6 rfl,hb⟩))
   go_region_held3 (fun W=>W.cell? ⟨q,3,none⟩=some (O J s.cap)/\W.cell? ⟨q,13,none⟩=some (.pointer (some ⟨h,0,none⟩))/\W.cell? ⟨q,15,none⟩=some (O J I)/\c.K A n k W (q+1)/\Below V1.heap.size V1 W)
    (((refine MK.o _ ?_);(first|(with_reducible exact h2.o)|(with_reducible exact fh.drew)|(go_grown;done)|(go_grown;with_reducible exact h2.o))))
    (first
     |(go_at_call 192;go_split_ands;(with_reducible refine(hG.o 1 (.inl rfl) _ (by assumption)).mono ?_);rintro r wA ⟨⟨m0,m1,rfl,H7⟩,h0⟩;have Hs:=ze H7;clear H7;(try((first|(have HY:=ze (HY.o.below h0 h5.o))|(have HY:=ze (Bx.below ((show Bx (V1.drew.alloc (.cells ([O U 0,O U 0,O U 0,O U 0,O U 0,O U 0]:iZ).toArray 366)) V1.heap.size [O U 0,O U 0,O U 0,O U 0,O U 0,O U 0]from Bx.new V1.drew [O U 0,O U 0,O U 0,O U 0,O U 0,O U 0] 366)) h0 (by simp))));(try clear h5);have h5:=ze (HY.o.lt (by simp));(try clear z0 z1 z2 z3 z4 z5 k0 k1 k2 k3 k4 k5);obtain⟨⟨z0,z1,z2,z3,z4,z5⟩,k0,k1,k2,k3,k4,k5⟩:=HY.o.o6));have h6:=ze ((‹Below V1.heap.size V1 _›).trans (h0.mono (‹Below V1.heap.size V1 _›).size));(try clear h2);have h2:=ze h6.o;(try clear hg);have hg:=h2.o.size;have a4:=h2.o.size;clear h6 h0)
     |(go_at_call 192;go_split_ands;(with_reducible refine(hG.o (-1) (.inr rfl) _ (by assumption)).mono ?_);rintro r wB ⟨⟨u0,u1,rfl,Hc⟩,h0⟩;have HD:=ze Hc;clear Hc;(try((first|(have HY:=ze (HY.o.below h0 h5.o))|(have HY:=ze (Bx.below ((show Bx (V1.drew.alloc (.cells ([O U 0,O U 0,O U 0,O U 0,O U 0,O U 0]:iZ).toArray 366)) V1.heap.size [O U 0,O U 0,O U 0,O U 0,O U 0,O U 0]from Bx.new V1.drew [O U 0,O U 0,O U 0,O U 0,O U 0,O U 0] 366)) h0 (by simp)))|(have HY:=ze (Bx.below (Bx.new wA [O U 0,O U 0,O U 0,O U 0,O U 0,O U 0] 366) h0 (by simp))));(try clear h5);have h5:=ze (HY.o.lt (by simp));(try clear z0 z1 z2 z3 z4 z5 k0 k1 k2 k3 k4 k5);obtain⟨⟨z0,z1,z2,z3,z4,z5⟩,k0,k1,k2,k3,k4,k5⟩:=HY.o.o6));have h6:=ze ((‹Below V1.heap.size V1 _›).trans (h0.mono (‹Below V1.heap.size V1 _›).size));(try clear h2);have h2:=ze h6.o;(try clear hg);have hg:=h2.o.size;have a5:=h2.o.size;clear h6 h0)
     |(go_at_call 228;go_split_ands;(with_reducible refine(hq.o m0 m1 u0 u1 Hs.o HD.o _ (by assumption)).mono ?_);rintro r wC ⟨⟨a,b,cc,dd,ee,gg,rfl,hw⟩,h0⟩;have hW:=ze hw;clear hw;(try((first|(have HY:=ze (HY.o.below h0 h5.o))|(have HY:=ze (Bx.below ((show Bx (V1.drew.alloc (.cells ([O U 0,O U 0,O U 0,O U 0,O U 0,O U 0]:iZ).toArray 366)) V1.heap.size [O U 0,O U 0,O U 0,O U 0,O U 0,O U 0]from Bx.new V1.drew [O U 0,O U 0,O U 0,O U 0,O U 0,O U 0] 366)) h0 (by simp)))|(have HY:=ze (Bx.below (Bx.new wA [O U 0,O U 0,O U 0,O U 0,O U 0,O U 0] 366) h0 (by simp)))|(have HY:=ze (Bx.below (Bx.new wB [O U 0,O U 0,O U 0,O U 0,O U 0,O U 0] 366) h0 (by simp))));(try clear h5);have h5:=ze (HY.o.lt (by simp));(try clear z0 z1 z2 z3 z4 z5 k0 k1 k2 k3 k4 k5);obtain⟨⟨z0,z1,z2,z3,z4,z5⟩,k0,k1,k2,k3,k4,k5⟩:=HY.o.o6));have h6:=ze ((‹Below V1.heap.size V1 _›).trans (h0.mono (‹Below V1.heap.size V1 _›).size));(try clear h2);have h2:=ze h6.o;(try clear hg);have hg:=h2.o.size;have a6:=h2.o.size;clear h6 h0))
   ·go_wp2_with fail
    go_meet
    exact⟨wC.heap.size,a,b,cc,dd,ee,gg,rfl,hW.o,hg,by simp,Bx.new wC [O U a,O U b,O U cc,O U dd,O U ee,O U gg] 366,h2.o.alloc hg _⟩
   all_goals(
    go_wp2_with fail
    go_meet
    have hY:=(((((HY.o.set 0 (O U a)).set 1 (O U b)).set 2 (O U cc)).set 3 (O U dd)).set 4 (O U ee)).set 5 (O U gg);have ab:=HY.o.lt (by simp);have HM:=h5.o;refine⟨_,a,b,cc,dd,ee,gg,rfl,hW.o,?_,?_,hY,kW h2.o ?_ _ _ _ _ _ _⟩
    ·first|omega|(simp;done)
    ·simpa using HM
    ·first|omega|(simp;done))
 case rest=>
 obtain⟨q3,a,b,cc,dd,ee,gg,rfl,hw,ac,HW,H8,hN⟩:=hcut;have Hk:=ze (hw.ofI HQ HU d0 d1);clear hw;obtain⟨V2,HL⟩:∃ V2,V2=wc:=⟨_,rfl⟩;subst HL;have hV:=ze H8;have hm:=ze hN;have af:=hN.size;clear H8 hN;have hX:=ze (HX.o.below hm.o h9);have hE:=ze (HC.o.below hm.o hv);have H0:=ze (HZ.o.below hm.o hD);have Hw:=ze (fun W=>xe a b cc dd ee gg f c.dir W (by omega) (by omega) d0 d1);obtain⟨D0,D1⟩:=Qo a b cc dd ee gg f c.dir d0 d1;generalize qD a b cc dd ee gg f c.dir=D at*;have ho:=ze (show Below w.heap.size w V2 from h4.o.trans (hm.o.mono hR));clear HX HC HZ hm hG hq h4;obtain⟨⟨z0,z1,z2,z3,z4,z5⟩,-⟩:=hV.o.o6;obtain⟨⟨c0,c1,c2,c3,c4,c5⟩,e0,e1,e2,e3,e4,e5⟩:=hE.o.o6;clear c0 c3 c4 c5 e0 e3 e4 e5;go_upto_region 5 with(go_at_call 229;(with_reducible refine(Hw.o _).mono ?_);rintro r w4 ⟨rfl,he⟩;have hk:=ze he;have a3:=he.size;have c1b:=zf he c1;have e1b:=zG he (show q+1<V2.heap.size by omega) e1;have c2b:=zf he c2;have e2b:=zG he (show q+1<V2.heap.size by omega) e2;clear he c1 e1 c2 e2 z0 z1 z2 z3 z4 z5);have hZ:=ze (hX.o.below hk.o (by omega));have hT:=ze (hE.o.below hk.o (by omega));have H1:=ze (H0.o.below hk.o (by omega));clear c1b e1b c2b e2b hX hE H0 hV;refine qj (w:=w) (W:=(w4.setCell ⟨q+1,1,none⟩ (O J D)).setCell ⟨q+1,2,none⟩ (O J 3)) (fun V3=>(Bx V3 q (ZD s sA sn sk h (.slice tA tn tc) I T)/\Bx V3 (q+1) (Cr.lv ⟨c.pos,D,3,c.left,c.wt⟩ (.slice A n k))/\Bx V3 (q+1+1) [O J 0,O J 0,O J 0,O J 0,.bool false,.slice none 0 0])/\q+1+1<V3.heap.size) ⟨⟨(hZ.o.setOther (a:=⟨q+1,1,none⟩) (by simp) _).setOther (a:=⟨q+1,2,none⟩) (by simp) _,(hT.o.set 1 _).set 2 _,(H1.o.setOther (a:=⟨q+1,1,none⟩) (by simp) _).setOther (a:=⟨q+1,2,none⟩) (by simp) _⟩,by simp;omega⟩ (((ho.o.trans (hk.o.mono (by omega))).setCell (p:=⟨q+1,1,none⟩) (by simp;omega) _).setCell (p:=⟨q+1,2,none⟩) (by simp;omega) _) ?_;clear hZ hT H1 hk ho a3;rintro V3 ⟨⟨hx,hc,hz⟩,hS⟩ h7;have HX:=ze hx;have HC:=ze hc;have HZ:=ze hz;have h4:=ze h7;clear hx hc hz h7;have ad:=h4.o.size;have hJ:=ze (Jr s sA sn sk h tA tn tc I T f base (q+1) ⟨c.pos,D,3,c.left,c.wt⟩ A n k B l trips V3 HC.o (HR.o.below (h4.o.mono (HA.o▸hB))) (by omega) hn hnk (HT.o.below h4.o) (fun p hp=>by have:=hu.o p hp;omega) Hq.o htl);have hL:=ze (fun p(hp:(Value.slice tA tn tc).ownBlock=some p)=>(show p≠q+1 from by have:=hu.o p hp;omega));have hM:=ze (fun p(hp:(Value.slice tA tn tc).ownBlock=some p)=>(show p≠q+1+1 from by have:=hu.o p hp;omega));have hA:=ze (fun p(hp:Xh S h p)=>(show p<q from by have:=HH.o p hp;omega));have h9:q<V3.heap.size:=by omega
 have hv:q+1<V3.heap.size:=by omega
 have hex:=hF.o;have Ho:=ze hex;clear hex;obtain⟨⟨x0,x1,x2,x3,x4,x5,x6,x7,x8,x9,x10,x11,x12,x13,x14,x15,x16⟩,-⟩:=HX.o.o17;go_upto_region 6 with(go_at_call 232;refine hJ.o.mono ?_;rintro r w5 hP;obtain⟨j,rr,t,A',n',k',rfl,hj,H9,Ha,hO,H4,H6,H3⟩:=OutP.yes hP Ho.o;have HP:=ze (show l[j]?=some rr/\rr.to_=f/\trips[rr.id.toNat]?=some t from⟨hj,H9,Ha⟩);have HO:=ze hO;have Hj:=ze H4;have HB:=ze H6;have hl:=ze H3;clear hP hj H9 Ha hO H4 H6 H3 x0 x1 x2 x3 x4 x5 x6 x7 x8 x9 x10 x11 x12 x13 x14 x15 x16);have ai:=hl.o.size;have HG:=ze (HX.o.but hl.o h9 (fun hx=>by rcases hx with hx|hx;exact absurd hx (by omega);have:=hu.o q hx;omega));have HJ:=ze (HZ.o.but hl.o hS (fun hx=>by rcases hx with hx|hx;exact absurd hx (by omega);have:=hu.o _ hx;omega));obtain⟨⟨c0,c1,c2,c3,c4,c5⟩,e0,e1,e2,e3,e4,e5⟩:=Hj.o.o6;obtain⟨⟨x0,x1,x2,x3,x4,x5,x6,x7,x8,x9,x10,x11,x12,x13,x14,x15,x16⟩,-⟩:=HG.o.o17;obtain⟨⟨z0,z1,z2,z3,z4,z5⟩,k0,k1,k2,k3,k4,k5⟩:=HJ.o.o6;clear x0 x1 x2 x3 x4 x5 x6 x8 x9 x10 x11 x12 x13 x14 x15 x16;go_wp2_with fail;have HN:But (fun q=>(Value.slice tA tn tc).ownBlock=some q\/Xh S h q) w w5:=(But.of_below h4.o).trans hl.o (fun i hi hx=>by
  rcases hx with hx|hx
  ·omega
  ·exact .inl hx)
 have HS:=ze (ServS.mk0 (A:=A) (h:=h) (S:=S) (S':=S) (L':=S.L) (w:=w) HO.o (by omega) (fun p hp hx=>by have h1:=(HO.o.row.lt p hp).1;have:=hA.o p hx;omega) HB.o ⟨(hU.o.below h4.o).but hl.o (fun p hp hx=>by
  rcases hx with hx|hx
  ·have:=hA.o p hp;omega
  ·exact HI.o p hx hp),fun _ _ h=>h,rfl,by omega,by omega⟩ HN)
 have H2:=fun(z:Nat)(hz:z=q+1\/z=q+1+1) b off(e:A'=some ⟨b,off,none⟩)=>(show b≠z from by have h1:=(HO.o.row.lt b (by rw[e];rfl)).1;omega)
 refine bodyPost_ret (v:=.tuple #[Cr.v ⟨c.pos,D,3,s.tr,false⟩ A' n' k',.bool false]) (by rw[results_cell_tmp rfl];go_simp) rfl ?_;have hQ:=ServS.sets (q:=q+1+1) (by omega) (H2 (q+1+1) (by simp)) (fun hp=>by have:=hA.o _ hp;omega) hM.o [(0,O J c.pos),(1,O J D),(2,O J 3),(3,O J s.tr),(4,.bool false),(5,.slice A' n' k')] _ (ServS.sets (q:=q+1) (by omega) (H2 (q+1) (by simp)) (fun hp=>by have:=hA.o _ hp;omega) hL.o [(3,O J s.tr),(4,.bool false)] _ HS.o);exact⟨D,⟨c.pos,D,3,s.tr,false⟩,_,_,_,A',n',k',S,false,rfl,D0,D1,Hk.o,SvX.same _ _ _ _ _,.inl ⟨j,rr,t,HP.o.1,HP.o.2.1,HP.o.2.2,rfl,rfl,rfl,rfl⟩,hQ⟩
end
end Go.Proofs.YtdeogmbfgkepeaaGreatDoor
