/- Contracts for WholeDelivers. -/
import Derived.Test.YtdeogmbfgkepeaaGreatDoorR20
import Derived.Test.YtdeogmbfgkepeaaGreatDoorR31
import Derived.Test.YtdeogmbfgkepeaaGreatDoorR32
set_option linter.unusedVariables false
set_option linter.unusedSimpArgs false
set_option maxRecDepth 100000
set_option maxHeartbeats 64000000
namespace Go.Proofs.YtdeogmbfgkepeaaGreatDoor
open Go.Proofs.Tryz
open Go.Value renaming int->O
open Go.IntKind renaming i64->J
section
open Go.RowKit HB Go.Maps CalP
theorem HB.Bx.o17{w:l6}{q:Nat}{v0 v1 v2 v3 v4 v5 v6 v7 v8 v9 v10 v11 v12 v13 v14 v15 v16:Value}(h:Bx w q [v0,v1,v2,v3,v4,v5,v6,v7,v8,v9,v10,v11,v12,v13,v14,v15,v16]):(w.cell? ⟨q,0,none⟩=some v0/\w.cell? ⟨q,1,none⟩=some v1/\w.cell? ⟨q,2,none⟩=some v2/\w.cell? ⟨q,3,none⟩=some v3/\w.cell? ⟨q,4,none⟩=some v4/\w.cell? ⟨q,5,none⟩=some v5/\w.cell? ⟨q,6,none⟩=some v6/\w.cell? ⟨q,7,none⟩=some v7/\w.cell? ⟨q,8,none⟩=some v8/\w.cell? ⟨q,9,none⟩=some v9/\w.cell? ⟨q,10,none⟩=some v10/\w.cell? ⟨q,11,none⟩=some v11/\w.cell? ⟨q,12,none⟩=some v12/\w.cell? ⟨q,13,none⟩=some v13/\w.cell? ⟨q,14,none⟩=some v14/\w.cell? ⟨q,15,none⟩=some v15/\w.cell? ⟨q,16,none⟩=some v16)/\(w.frozen? ⟨q,0,none⟩=false/\w.frozen? ⟨q,1,none⟩=false/\w.frozen? ⟨q,2,none⟩=false/\w.frozen? ⟨q,3,none⟩=false/\w.frozen? ⟨q,4,none⟩=false/\w.frozen? ⟨q,5,none⟩=false/\w.frozen? ⟨q,6,none⟩=false/\w.frozen? ⟨q,7,none⟩=false/\w.frozen? ⟨q,8,none⟩=false/\w.frozen? ⟨q,9,none⟩=false/\w.frozen? ⟨q,10,none⟩=false/\w.frozen? ⟨q,11,none⟩=false/\w.frozen? ⟨q,12,none⟩=false/\w.frozen? ⟨q,13,none⟩=false/\w.frozen? ⟨q,14,none⟩=false/\w.frozen? ⟨q,15,none⟩=false/\w.frozen? ⟨q,16,none⟩=false):=
 ⟨⟨(h 0 _ rfl).1,(h 1 _ rfl).1,(h 2 _ rfl).1,(h 3 _ rfl).1,(h 4 _ rfl).1,(h 5 _ rfl).1,(h 6 _ rfl).1,(h 7 _ rfl).1,(h 8 _ rfl).1,(h 9 _ rfl).1,(h 10 _ rfl).1,(h 11 _ rfl).1,(h 12 _ rfl).1,(h 13 _ rfl).1,(h 14 _ rfl).1,(h 15 _ rfl).1,(h 16 _ rfl).1⟩,⟨(h 0 _ rfl).2,(h 1 _ rfl).2,(h 2 _ rfl).2,(h 3 _ rfl).2,(h 4 _ rfl).2,(h 5 _ rfl).2,(h 6 _ rfl).2,(h 7 _ rfl).2,(h 8 _ rfl).2,(h 9 _ rfl).2,(h 10 _ rfl).2,(h 11 _ rfl).2,(h 12 _ rfl).2,(h 13 _ rfl).2,(h 14 _ rfl).2,(h 15 _ rfl).2,(h 16 _ rfl).2⟩⟩
abbrev Cr.lv(c:Cr)(v:Value):iZ:=[O J c.pos,O J c.dir,O J c.mode,O J c.left,.bool c.wt,v]
abbrev ZD(s:Sc)(A:iX)(n c:Nat)(h:Nat)(tv:Value)(I T:Int):iZ:=[O J s.fl,O J s.gap,O J s.cars,O J s.cap,O J s.opn,O J s.dw,O J s.cl,O J s.tr,.slice A n c,O J s.disp,O J s.hor,O J s.bins,O J s.width,.pointer (some ⟨h,0,none⟩),tv,O J I,O J T]
abbrev aj(s:Sc)(A:iX)(n c:Nat)(h:Nat)(tv:Value)(I T:Int):Value:=.agg #[O J s.fl,O J s.gap,O J s.cars,O J s.cap,O J s.opn,O J s.dw,O J s.cl,O J s.tr,.slice A n c,O J s.disp,O J s.hor,O J s.bins,O J s.width,.pointer (some ⟨h,0,none⟩),tv,O J I,O J T]
theorem Rider.info:(prog.info? 401).map (fun i=>(i.zero,i.size,i.bytes))=some (some (.agg #[O J 0,O J 0]),2,16):=by kernel_rfl
theorem Z6(g:Rid):∀ u∈jS g,u.oneCell'=true:=by simp[jS,Value.oneCell']
theorem Z7(g:Rid):(jS g).length=2:=rfl
theorem qE(g:Tr):(kN g).length=7:=rfl
def zL(s:Sc)(I f d:Int):HK:=(f,d,if s.disp=4 then I else -1)
theorem Jq(s:Sc)(A:iX)(n c:Nat)(h:Nat)(tA:iX)(tn tc:Nat)(I T f d:Int)(w:l6):
  Calls prog 259 #[aj s A n c h (.slice tA tn tc) I T,O J f,O J d] w (fk (.agg #[O J (zL s I f d).1,O J (zL s I f d).2.1,O J (zL s I f d).2.2]) w):=by
 have h0:w.heap.size<=w.heap.size+1:=by omega
 by_cases hd:s.disp=4
 ·have e1:(s.disp==4)=true:=by simpa using hd
  have hk:zL s I f d=(f,d,I):=by unfold zL;rw[if_pos hd]
  rw[hk];clear hk hd
  go_in
  go_wp2_with fail;refine bodyPost_ret (v:=.agg #[O J f,O J d,O J I]) (by rw[zi rfl];go_simp) rfl ?_;exact⟨rfl,by go_grown⟩
 ·have e1:(s.disp==4)=false:=by simpa using hd
  have hk:zL s I f d=(f,d,-1):=by unfold zL;rw[if_neg hd]
  rw[hk];clear hk hd
  go_in
  go_wp2_with fail;refine bodyPost_ret (v:=.agg #[O J f,O J d,O J (-1)]) (by rw[zi rfl];go_simp) rfl ?_;exact⟨rfl,by go_grown⟩
theorem Gw(b off x:Nat):(⟨b,off,none⟩:Addr).add x=⟨b,off+x,none⟩:=by
 unfold Addr.add;split
 ·rename_i h;rw[h];rfl
 ·rfl
theorem kV(L:List Rid):∀ u∈L.flatMap jS,u.oneCell'=true:=fun u hu=>by
 obtain⟨x,-,hx⟩:=iW.1 hu;exact Z6 x u hx
theorem HB.Own.slice{α:Type}{w:l6}{base:Nat}{e:TypeId}{sz:Nat}{f:α->iZ}{v:Value}{l:List α}(h:Own w base e sz f v l):∃ A n k,v=.slice A n k/\n=l.length/\n<=k:=by
 obtain⟨A,k,h1,h2,-⟩:=h.shape;exact⟨A,_,k,h1,rfl,h2⟩
def OutP(base cb:Nat)(c:Cr)(l:List Rid)(f T:Int)(tv:Value)(trips:List Tr)(w:l6)(e:Ending)(w':l6):Prop:=
 (e=.returned (.bool false)/\(∀r∈l,r.to_≠f)/\Below w.heap.size w w')\/
 ∃(j:Nat)(r:Rid)(t:Tr)(A':iX)(n' k':Nat),e=.returned (.bool true)/\l[j]?=some r/\r.to_=f/\trips[r.id.toNat]?=some t/\Own w' w.heap.size 401 2 jS (.slice A' n' k') (l.take j++l.drop (j+1))/\Bx w' cb (c.lv (.slice A' n' k'))/\
  Own w' base 87 7 kN tv (trips.set r.id.toNat {t with al:=T})/\But (fun q=>q=cb\/tv.ownBlock=some q) w w'
theorem Jr(s:Sc)(sA:iX)(sn sk:Nat)(h:Nat)(tA:iX)(tn tc:Nat)(I T f:Int)(base cb:Nat)(c:Cr)(A:iX)(n k B:Nat)(l:List Rid)(trips:List Tr)(w:l6)
  (hbx:Bx w cb (c.lv (.slice A n k)))(hr:Rds w B A n l)(hB:B<=w.heap.size)(hn:n<=1000)(hnk:n<=k)(ht:Own w base 87 7 kN (.slice tA tn tc) trips)(hne:∀ q,(Value.slice tA tn tc).ownBlock=some q->q≠cb)
  (hid:∀ r∈l,0<=r.id/\r.id<trips.length)(htl:trips.length<=10000000):
  Calls prog 232 #[aj s sA sn sk h (.slice tA tn tc) I T,.pointer (some ⟨cb,0,none⟩),O J f] w (OutP base cb c l f T (.slice tA tn tc) trips w):=by
 have hT:=ze hbx;have HR:=ze hr;have HT:=ze ht;have Hq:=hbx.lt (by simp);have Hc:=ze hid;have hG:=ze hne;obtain⟨⟨c0,c1,c2,c3,c4,c5⟩,-⟩:=hbx.o6;clear hbx hr ht hid hne
 go_in
 go_wp2_with fail;have HB:=ze ((Below.refl w.heap.size w).alloc fi (.cells (ZD s sA sn sk h (.slice tA tn tc) I T).toArray 328));have HX:=ze (Bx.new w (ZD s sA sn sk h (.slice tA tn tc) I T) 328);clear c0 c1 c2 c3 c4 c5;obtain⟨hl,H6⟩:=(show l.length=n/\Rd w B 2 A n (l.flatMap jS)from⟨HR.o.2,HR.o.1⟩);have HL:=ze hl;have hJ:=ze H6;clear hl H6;generalize hW:w.alloc (.cells (ZD s sA sn sk h (.slice tA tn tc) I T).toArray 328)=W at*;have H8:w.heap.size<W.heap.size:=by rw[<-hW];simp
 clear hW
 go_loopw [15] (fun i wr=>∃ j:Nat,j<=n/\i=O J j/\Below W.heap.size W wr/\∀ q r,q<j->l[q]?=some r->r.to_≠f) (fun i _=>n-(intOf i).toNat)
 case atStart=>exact⟨0,vf _,rfl,fh,fun q r hq=>by omega⟩
 case round=>
  obtain⟨j,hj,rfl,hy,hall⟩:=hrel;have h6:=ze hall;have hD:=ze hy;clear hall;have hu:=ze (HB.o.trans (hy.mono (by omega)));by_cases H2:j<n
  ·obtain⟨b,off,r,hA,HN,hr,r0,r1⟩:=(HR.o.below (hu.o.mono hB)).at_ H2;subst hA;have hid:=Hc.o r (jx hr);obtain⟨id,tt⟩:=r;simp only at hid r0 r1;obtain⟨m,rfl⟩:=QM hid.1;have hL:=ze hr;have i0:(0:Int)<=(j:Int):=by omega
   have i1:(j:Int)<(n:Int):=by omega
   have Ho:=hy.size;have h5:b<wr.heap.size:=by omega
   have hm:m<trips.length:=by omega
   have HM:=ze hm;clear hr hy hm hid;by_cases hC:tt=f
   ·subst hC;obtain⟨t,ht⟩:∃ t,trips[m]?=some t:=⟨_,kD HM.o⟩;have h9:=ze ht;obtain⟨tg,tcap,H7,HF,hS,-,HG,HH⟩:=HT.o.at_ (by have:=HM.o;omega);simp only[We]at H7;obtain⟨rfl,rfl,rfl⟩:=H7;have hz:=hG.o tg rfl;clear ht HG HH;go_upto_region 5 with(fail);have H3:=ze (show Below wr.heap.size wr (wr.alloc (.cells #[O J (m:Int),O J tt] 401))from fh.alloc fi _);have HQ:=ze (Bx.new wr [O J (m:Int),O J tt] 401);refine zq (w:=wr) (fun V=>Bx V wr.heap.size [O J (m:Int),O J tt]/\wr.heap.size<V.heap.size) ⟨HQ.o,by simp⟩ H3.o ?_;clear H3 HQ;rintro V ⟨H4,H5⟩ hP;generalize wr.heap.size=q at*;have h8:=ze (hu.o.trans (hP.mono (by omega)));have hc:=ze (hD.o.trans (hP.mono (by omega)));have HQ:=ze H4;clear H4 hP hu hD r0 r1;have H1:=ze (HX.o.below hc.o H8);have hd:=ze (hT.o.below h8.o Hq);have hV:=ze ((hJ.o.below (h8.o.mono hB)).front (k:=j) (by omega));have hv:=ze ((hJ.o.below (h8.o.mono hB)).cut (k:=j+1) (cap:=k) (by omega) hnk);have HI:=hc.o.size;have hw:w.heap.size<=V.heap.size:=by omega
    obtain⟨⟨c0,c1,c2,c3,c4,c5⟩,f0,f1,f2,f3,f4,f5⟩:=hd.o.o6;have hF:=ze (show(l.take j).length=j by rw[XT,HL.o];omega);have hY:=ze (show(l.drop (j+1)).length=n-(j+1) by rw[List.length_drop,HL.o]);have hU:=ze (show Rd V B 2 (some ⟨b,off,none⟩) j ((l.take j).flatMap jS)from(xE Z7 l j)▸hV.o);have Hs:¬ w.heap.size=cb:=by omega
    have Hw:¬ q=cb:=by omega
    have HA:¬ tg=cb:=hz;have HC:¬ cb=tg:=fun e=>hz e.symm
    have HD:¬ cb=w.heap.size:=by omega
    have HE:¬ cb=q:=by omega
    have H9:q<V.heap.size:=H5;have Ha:w.heap.size<V.heap.size:=by omega
    have HO:tg<V.heap.size:=by omega
    have ha:cb<V.heap.size:=by omega
    have H0:=ze (HT.o.below h8.o);have m0:(0:Int)<=(m:Int):=by omega
    have s0:(0:Int)<=(j:Int)+1:=by omega
    have s1:(j:Int)+1<=(n:Int):=by omega
    have HJ:=ze (show base<=tg/\tg<w.heap.size from⟨HF,hS⟩);have m1:(m:Int)<(trips.length:Int):=by have:=HM.o;omega
    have hZ:=ze (show(l.take j).length<=1000000000 by rw[hF.o];omega);have ho:B<=V.heap.size:=by omega
    clear hV HT hT HX HR hJ i0 i1 H2 H8 HI Ho H5 h6;by_cases hk:k=j+1
    ·have hE:=ze (show Rd V B 2 (some ⟨b,off,none⟩) (n-(j+1)) ((l.drop (j+1)).flatMap jS)from by
      have h1:=hv.o;rw[if_pos hk]at h1;exact(qm Z7 l (j+1))▸h1)
     clear hv;go_wp2_with(first
      |(at_builtin;refine qe rfl _ _ 263 rfl underlying263 Rider.info rfl (by omega) (by omega) rfl (Own.nil V V.heap.size 401 2 jS) (l.take j) B _ j _ rfl hF.o hU.o (kV _) (by simp) (by omega) fi ?_;intro v1 w1 h3 h5;have hI:=ze (show Own w1 V.heap.size 401 2 jS v1 (l.take j)from h3);have h7:=ze h5;have d5:=(h5.cell (p:=⟨cb,5,none⟩) ha).trans c5;clear h3 h5 c0 c1 c2 c3 c4 c5 f0 f1 f2 f3 f4 f5)
      |(at_builtin;refine qe rfl _ _ 263 rfl underlying263 Rider.info rfl (by omega) (by omega) rfl hI.o (l.drop (j+1)) B _ (n-(j+1)) _ rfl hY.o (hE.o.below (h7.o.mono ho)) (kV _) hZ.o (by omega) h7.o.size ?_;intro v2 w2 h0 hg;obtain⟨A',n',k',rfl,hs,hR⟩:=Own.slice h0;have he:=ze h0;have Hj:=ze hs;have h4:=ze (h7.o.trans hg);clear h0 hg hs d5;obtain⟨⟨-,-,-,-,-,d5⟩,-,-,-,-,-,g5⟩:=(hd.o.below h4.o ha).o6;obtain⟨⟨-,-,-,-,-,-,-,-,-,-,-,-,-,-,d14,-,d16⟩,-⟩:=(H1.o.below h4.o Ha).o17;have q0:=((HQ.o.below h4.o H9) 0 _ rfl).1;have hf:=ze (H0.o.below h4.o);obtain⟨z6,y6⟩:=hf.o.elem_cell qE rfl h9.o (show 6<7 by omega) rfl))
     go_ret;refine .inr ⟨j,⟨m,tt⟩,t,A',n',k',rfl,hL.o,rfl,h9.o,?_⟩;have hi:But (fun p=>p=cb\/p=tg) w2 ((w2.setCell ⟨cb,5,none⟩ (.slice A' n' k')).setCell ⟨tg,m*7+6,none⟩ (O J T)):=((But.refl (fun p=>p=cb\/p=tg) w2).at1 (.inl rfl) _ _).at1 (.inr rfl) _ _;have hO:=(he.o.but hi (fun p hp hx=>by have:=(he.o.row.lt p hp).1;omega)).small hw;have hX:=((hd.o.below h4.o ha).set 5 (.slice A' n' k')).setOther (a:=⟨tg,m*7+6,none⟩) hz (O J T);have hM:Own (w2.setCell ⟨cb,5,none⟩ (.slice A' n' k')) base 87 7 kN (.slice (some ⟨tg,0,none⟩) trips.length tc) trips:=hf.o.but ((But.refl (fun p=>p=cb) w2).at1 rfl _ _) (fun p hp e=>by have:=hG.o p hp;omega);have hN:=(hM.storeF qE rfl h9.o (x':={t with al:=T}) (j:=6) (u:=O J T) rfl (by omega)).1;have hQ:=((But.of_below (X:=fun p=>p=cb\/p=tg) (h8.o.trans (h4.o.mono hw))).trans hi (fun _ _ h=>h));exact⟨hO,hX,hN,hQ.mono (fun p _ hx=>hx.imp id (fun e=>by rw[e];rfl))⟩
    ·have hE:=ze (show Rd V B 2 (some ⟨b,off+(j+1)*2,none⟩) (n-(j+1)) ((l.drop (j+1)).flatMap jS)from by
      have h1:=hv.o;rw[if_neg hk]at h1;have h2:Rd V B 2 (some ((⟨b,off,none⟩:Addr).add ((j+1)*2))) (n-(j+1)) ((l.drop (j+1)).flatMap jS):=(qm Z7 l (j+1))▸h1;rw[Gw]at h2;exact h2)
     clear hv;go_wp2_with(first
      |(at_builtin;refine qe rfl _ _ 263 rfl underlying263 Rider.info rfl (by omega) (by omega) rfl (Own.nil V V.heap.size 401 2 jS) (l.take j) B _ j _ rfl hF.o hU.o (kV _) (by simp) (by omega) fi ?_;intro v1 w1 h3 h5;have hI:=ze (show Own w1 V.heap.size 401 2 jS v1 (l.take j)from h3);have h7:=ze h5;have d5:=(h5.cell (p:=⟨cb,5,none⟩) ha).trans c5;clear h3 h5 c0 c1 c2 c3 c4 c5 f0 f1 f2 f3 f4 f5)
      |(at_builtin;refine qe rfl _ _ 263 rfl underlying263 Rider.info rfl (by omega) (by omega) rfl hI.o (l.drop (j+1)) B _ (n-(j+1)) _ rfl hY.o (hE.o.below (h7.o.mono ho)) (kV _) hZ.o (by omega) h7.o.size ?_;intro v2 w2 h0 hg;obtain⟨A',n',k',rfl,hs,hR⟩:=Own.slice h0;have he:=ze h0;have Hj:=ze hs;have h4:=ze (h7.o.trans hg);clear h0 hg hs d5;obtain⟨⟨-,-,-,-,-,d5⟩,-,-,-,-,-,g5⟩:=(hd.o.below h4.o ha).o6;obtain⟨⟨-,-,-,-,-,-,-,-,-,-,-,-,-,-,d14,-,d16⟩,-⟩:=(H1.o.below h4.o Ha).o17;have q0:=((HQ.o.below h4.o H9) 0 _ rfl).1;have hf:=ze (H0.o.below h4.o);obtain⟨z6,y6⟩:=hf.o.elem_cell qE rfl h9.o (show 6<7 by omega) rfl))
     go_ret;refine .inr ⟨j,⟨m,tt⟩,t,A',n',k',rfl,hL.o,rfl,h9.o,?_⟩;have hi:But (fun p=>p=cb\/p=tg) w2 ((w2.setCell ⟨cb,5,none⟩ (.slice A' n' k')).setCell ⟨tg,m*7+6,none⟩ (O J T)):=((But.refl (fun p=>p=cb\/p=tg) w2).at1 (.inl rfl) _ _).at1 (.inr rfl) _ _;have hO:=(he.o.but hi (fun p hp hx=>by have:=(he.o.row.lt p hp).1;omega)).small hw;have hX:=((hd.o.below h4.o ha).set 5 (.slice A' n' k')).setOther (a:=⟨tg,m*7+6,none⟩) hz (O J T);have hM:Own (w2.setCell ⟨cb,5,none⟩ (.slice A' n' k')) base 87 7 kN (.slice (some ⟨tg,0,none⟩) trips.length tc) trips:=hf.o.but ((But.refl (fun p=>p=cb) w2).at1 rfl _ _) (fun p hp e=>by have:=hG.o p hp;omega);have hN:=(hM.storeF qE rfl h9.o (x':={t with al:=T}) (j:=6) (u:=O J T) rfl (by omega)).1;have hQ:=((But.of_below (X:=fun p=>p=cb\/p=tg) (h8.o.trans (h4.o.mono hw))).trans hi (fun _ _ h=>h));exact⟨hO,hX,hN,hQ.mono (fun p _ hx=>hx.imp id (fun e=>by rw[e];rfl))⟩
   ·have Hk:=ze (show∀q r,q<j+1->l[q]?=some r->r.to_≠f from fun q r hq hr=>by
     rcases YF q j with h1|h1
     ·exact h6.o q r h1 hr
     ·obtain rfl:q=j:=by omega
      rw[hL.o]at hr;injection hr with hr;subst hr;exact hC)
    have e1:(tt==f)=false:=by simpa using hC
    clear hC;go_wp2_with fail;go_roundw
    case rel=>exact⟨j+1,by omega,by go_num,hD.o.trans (by go_grown),Hk.o⟩
    case measure=>simp[intOf];omega
  ·obtain rfl:j=n:=by omega
   go_wp2_with fail;go_ret;exact .inl ⟨rfl,fun r hr=>by
    obtain⟨q,hq⟩:=Z5 hr;exact h6.o q r (by have:=(qd.1 hq).1;rw[HL.o]at this;exact this) hq,hu.o⟩
structure HallTo(w:l6)(h:Nat)(S:HS)(w':l6)(S':HS)(L':HK->List Wt):Prop where
 hl:Hl w' h S'
 x:∀ k,k<w.heap.size->Xh S' h k->Xh S h k
 L:S'.L=L'
 nw:S'.nw<=S.nw+1
 nc:S'.nc<=S.nc+1
theorem Hl.len_eq{w:l6}{h:Nat}{S:HS}(H:Hl w h S)(k:HK):((S.fw k).getD ⟨none,0,0⟩).n=(S.L k).length:=by
 cases hf:S.fw k with
 |none=>rw[H.non k hf];rfl
 |some s=>exact(H.row k s hf).2.len.symm
theorem HS.ne.take{S:HS}{k:HK}{c:Option Sl}{t:List Wt}(h:S.ne)(hc:c.isSome=true->t≠[])(mw:Option Nat)(nw:Nat):(S.at_ mw nw k c t).ne:=fun k' h0=>by
 by_cases e:k'=k
 ·subst e;show qf S.L k' t k'≠[];rw[jp];refine hc ?_;have h2:(upd S.fw k' c k').isSome=true:=h0;rw[zK]at h2;exact h2
 ·show qf S.L k t k'≠[];rw[zU _ _ e];refine h k' ?_;have h2:(upd S.fw k c k').isSome=true:=h0;rw[zv _ _ e]at h2;exact h2
def InFc(s:Sc)(f d:Int)(tl:List Wt)(S S':HS)(gone:Bool):Prop:=(S.ne->S'.ne)/\(((s.disp=4\/tl≠[])/\S'.fc=S.fc/\gone=false)\/(s.disp≠4/\tl=[]/\S'.fc=upd S.fc (f,d) none/\gone=(S.fc (f,d)).isSome))
def InP(base cb:Nat)(s:Sc)(c:Cr)(l:List Rid)(I f T:Int)(tv:Value)(trips:List Tr)(h:Nat)(S:HS)(w:l6)(e:Ending)(w':l6):Prop:=
 (e=.returned (.tuple #[.bool false,.bool false])/\(c.dir=0\/s.cap<=(l.length:Int)\/S.L (zL s I f c.dir)=[])/\Below w.heap.size w w')\/
 ∃(x:Wt)(tl:List Wt)(t:Tr)(A':iX)(n' k':Nat)(S':HS)(gone:Bool),e=.returned (.tuple #[.bool true,.bool gone])/\c.dir≠0/\(l.length:Int)<s.cap/\S.L (zL s I f c.dir)=x::tl/\trips[x.id.toNat]?=some t/\
  Own w' w.heap.size 401 2 jS (.slice A' n' k') (l++[⟨x.id,x.to_⟩])/\Bx w' cb (c.lv (.slice A' n' k'))/\Own w' base 87 7 kN tv (trips.set x.id.toNat {t with car:=I,bo:=T})/\
  HallTo w h S w' S' (qf S.L (zL s I f c.dir) tl)/\InFc s f c.dir tl S S' gone/\But (fun q=>q=cb\/tv.ownBlock=some q\/Xh S h q) w w'/\∀ p,(Value.slice A' n' k').ownBlock=some p->¬ Xh S' h p
theorem TakeP.some_{w w':l6}{h:Nat}{S:HS}{k:HK}{e:Ending}{x:Wt}{t:List Wt}(hl:S.L k=x::t)(hP:TakeP w h S k e w'):e=.returned (.tuple #[x.v,.bool true])/\∃ nw c,HNext w h S w' (S.at_ S.mw nw k c t)/\nw<=S.nw+1/\(c.isSome=true->t≠[]):=by
 rcases hP with⟨x',t',hL,he,hx⟩|⟨hL,_⟩
 ·rw[hl]at hL;injection hL with h1 h2;subst h1;subst h2;exact⟨he,hx⟩
 ·rw[hl]at hL;cases hL
theorem TakeP.none_{w w':l6}{h:Nat}{S:HS}{k:HK}{e:Ending}(hl:S.L k=[])(hP:TakeP w h S k e w'):e=.returned (.tuple #[Wt.v ⟨0,0,0,0⟩,.bool false])/\Below w.heap.size w w':=by
 rcases hP with⟨x',t',hL,he,hx⟩|⟨hL,h1,h2⟩
 ·rw[hl]at hL;cases hL
 ·exact⟨h1,h2⟩
theorem HB.Rd.but{X:Nat->Prop}{w w':l6}{B sz n:Nat}{A:iX}{xs:iZ}(h:Rd w B sz A n xs)(hb:But X w w')(hB:B<=w.heap.size)(hx:∀ b off,A=some ⟨b,off,none⟩->¬ X b):Rd w' B sz A n xs:=
 ⟨h.1,fun hn=>by
  obtain⟨b,off,e,h0,hc⟩:=h.2 hn;exact⟨b,off,e,h0,fun j u hu=>hb.cell (hc j u hu) (hx b off e)⟩⟩
theorem Yr(w:l6)(g:Rid)(r:Nat)(hr:r=w.heap.size)(ty:TypeId):∀ j u,(jS g)[j]?=some u->(w.alloc (.cells #[O J g.id,O J g.to_] ty)).cell? ((⟨r,0,none⟩:Addr).add j)=some u:=fun j u hu=>by
 subst hr;have h:=(Bx.new w [O J g.id,O J g.to_] ty j u hu).1;rw[Gw,Wa];exact h
theorem eU{V cur w6:l6}(hb6:Below cur.heap.size cur w6)(h:Below V.heap.size V cur):Below V.heap.size V w6:=h.trans (hb6.mono h.size)
theorem HB.But.one{w w':l6}{q o:Nat}{u:Value}(h:Below w.heap.size w w'):But (fun p=>p=q) w (w'.setCell ⟨q,o,none⟩ u):=(But.of_below h).at1 (X:=fun p=>p=q) rfl o u
theorem HB.But.two{w:l6}{q o o':Nat}{u v:Value}:But (fun p=>p=q) w ((w.setCell ⟨q,o,none⟩ u).setCell ⟨q,o',none⟩ v):=((But.refl (fun p=>p=q) w).at1 rfl _ _).at1 rfl _ _
theorem HB.But.drew{X:Nat->Prop}{w w':l6}(h:But X w w'):But X w w'.drew:=h.then_ fh.drew
theorem eV{V cur w6:l6}(hb6:Below cur.heap.size cur w6)(h:Below V.heap.size V cur):V.heap.size<=cur.heap.size:=h.size
theorem eL{V cur w6:l6}{row:Option Nat}(hg:cur.grownBy w6 row)(h:Below V.heap.size V cur)(hr:∀ k,row=some k->V.heap.size<=k):Below V.heap.size V w6:=h.grown hg h.size hr
structure InS(base cb:Nat)(c:Cr)(l:List Rid)(I T:Int)(tv:Value)(trips:List Tr)(h:Nat)(S:HS)(L':HK->List Wt)(x:Wt)(t:Tr)(w:l6)(A':iX)(n' k':Nat)(S':HS)(w':l6):Prop where
 o:Own w' w.heap.size 401 2 jS (.slice A' n' k') (l++[⟨x.id,x.to_⟩])
 b:Bx w' cb (c.lv (.slice A' n' k'))
 t:Own w' base 87 7 kN tv (trips.set x.id.toNat {t with car:=I,bo:=T})
 hh:HallTo w h S w' S' L'
 but:But (fun q=>q=cb\/tv.ownBlock=some q\/Xh S h q) w w'
 ro:∀ p,(Value.slice A' n' k').ownBlock=some p->¬ Xh S' h p
theorem InS.below{base cb:Nat}{c:Cr}{l:List Rid}{I T:Int}{tv:Value}{trips:List Tr}{h:Nat}{S:HS}{L':HK->List Wt}{x:Wt}{t:Tr}{w:l6}{A':iX}{n' k':Nat}{S':HS}{w' w2:l6}(H:InS base cb c l I T tv trips h S L' x t w A' n' k' S' w')(hb:Below w'.heap.size w' w2):InS base cb c l I T tv trips h S L' x t w A' n' k' S' w2:=
 ⟨H.o.below hb,H.b.below hb (H.b.lt (by simp)),H.t.below hb,⟨H.hh.hl.below hb,H.hh.x,H.hh.L,H.hh.nw,H.hh.nc⟩,H.but.then_ hb,H.ro⟩
theorem InS.calls{base cb:Nat}{c:Cr}{l:List Rid}{I T:Int}{tv:Value}{trips:List Tr}{h:Nat}{S:HS}{L':HK->List Wt}{x:Wt}{t:Tr}{w:l6}{A':iX}{n' k':Nat}{S':HS}{w' w2:l6}(H:InS base cb c l I T tv trips h S L' x t w A' n' k' S' w'){fc:Int×Int->Option (Int×Int)}(hc:JN w' h S' fc w2)(h0:S'.nc<=S.nc)
  (hxc:¬ Xh S h cb)(hcb:cb<w.heap.size)(hxt:∀ q,tv.ownBlock=some q->¬ Xh S h q/\q<w.heap.size):∃ S2,S2.fc=fc/\(S'.ne->S2.ne)/\InS base cb c l I T tv trips h S L' x t w A' n' k' S2 w2:=by
 obtain⟨mc,nc,hn,h1⟩:=hc;have key:∀ q,q<w.heap.size->Xh S' h q->Xh S h q:=H.hh.x;refine⟨S'.calls mc nc fc,rfl,fun h=>h,H.o.but hn.but (fun p hp hx=>H.ro p hp hx),H.b.but hn.but (H.b.lt (by simp)) (fun hx=>hxc (key _ hcb hx)),H.t.but hn.but (fun p hp hx=>(hxt p hp).1 (key _ (hxt p hp).2 hx)),⟨hn.hl,fun k hk hx=>key k hk (hn.x k (kK hk H.but.size) hx),H.hh.L,H.hh.nw,by show nc<=_;omega⟩,H.but.trans hn.but (fun i hi hx=>.inr (.inr (key i hi hx))),fun p hp hx=>H.ro p hp (hn.x p (H.o.row.lt p hp).2 hx)⟩
theorem Qq(s:Sc)(sA:iX)(sn sk:Nat)(h:Nat)(tA:iX)(tn tc:Nat)(I T f:Int)(base cb:Nat)(c:Cr)(A:iX)(n k B:Nat)(l:List Rid)(trips:List Tr)(S:HS)(w:l6)
  (hbx:Bx w cb (c.lv (.slice A n k)))(hr:Rds w B A n l)(hB:B<=w.heap.size)(hn:n<=1000)(hd:c.dir=0):
  Calls prog 233 #[aj s sA sn sk h (.slice tA tn tc) I T,.pointer (some ⟨cb,0,none⟩),O J f] w (InP base cb s c l I f T (.slice tA tn tc) trips h S w):=by
 have e1:(c.dir==0)=true:=by simpa using hd
 have HD:=ze hd;clear hd;have h1:=ze hbx;have h6:=hbx.lt (by simp);have HL:=ze hr.2
 go_in
 go_upto_region 1 with(fail);refine zq (w:=w) (fun V=>Bx V w.heap.size (ZD s sA sn sk h (.slice tA tn tc) I T)/\w.heap.size<V.heap.size) ⟨Bx.new w (ZD s sA sn sk h (.slice tA tn tc) I T) 328,by simp⟩ ((Below.refl w.heap.size w).alloc fi _) ?_;rintro V ⟨hx,h8⟩ h0;have HX:=ze hx;have h3:=ze h0;have h4:=ze (h1.o.below h0 h6);have h7:cb<V.heap.size:=by omega
 generalize h2:w.heap.size=q at*;have h5:=ze h2;clear hx h0 h1 h2;obtain⟨⟨c0,c1,c2,c3,c4,c5⟩,-⟩:=h4.o.o6;clear c0 c2 c3 c4 c5;go_quiet(fail);go_wp2_with fail;go_ret2;exact .inl ⟨rfl,.inl HD.o,h5.o▸zg h3.o _⟩
theorem ZE(s:Sc)(sA:iX)(sn sk:Nat)(h:Nat)(tA:iX)(tn tc:Nat)(I T f:Int)(base cb:Nat)(c:Cr)(A:iX)(n k B:Nat)(l:List Rid)(trips:List Tr)(S:HS)(w:l6)
  (hbx:Bx w cb (c.lv (.slice A n k)))(hr:Rds w B A n l)(hB:B<=w.heap.size)(hn:n<=1000)(hd:c.dir≠0)(hf:s.cap<=(n:Int)):
  Calls prog 233 #[aj s sA sn sk h (.slice tA tn tc) I T,.pointer (some ⟨cb,0,none⟩),O J f] w (InP base cb s c l I f T (.slice tA tn tc) trips h S w):=by
 have e1:(c.dir==0)=false:=by simpa using hd
 have e2:decide (s.cap<=(n:Int))=true:=by simpa using hf
 have HF:=ze (show s.cap<=(l.length:Int) by rw[hr.2];exact hf);clear hd hf;have h3:=ze hbx;have ha:=hbx.lt (by simp);have HL:=ze hr.2
 go_in
 go_upto_region 1 with(fail);refine zq (w:=w) (fun V=>Bx V w.heap.size (ZD s sA sn sk h (.slice tA tn tc) I T)/\w.heap.size<V.heap.size) ⟨Bx.new w (ZD s sA sn sk h (.slice tA tn tc) I T) 328,by simp⟩ ((Below.refl w.heap.size w).alloc fi _) ?_;rintro V ⟨hx,he⟩ h1;have HX:=ze hx;have h6:=ze h1;have h7:=ze (h3.o.below h1 ha);have h9:cb<V.heap.size:=by omega
 generalize h5:w.heap.size=q at*;have h8:=ze h5;clear hx h1 h3 h5;have MK:=ze (fun W(hb:Below V.heap.size V W)=>(show c.K A n k W cb/\W.cell? ⟨q,3,none⟩=some (O J s.cap)/\Below V.heap.size V W from⟨(h7.o.below hb h9).k6 rfl,((HX.o.below hb he) 3 _ rfl).1,hb⟩))
 go_region_held3 (fun W=>c.K A n k W cb/\W.cell? ⟨q,3,none⟩=some (O J s.cap)/\Below V.heap.size V W)
  (((refine MK.o _ ?_);(first|(with_reducible exact h0.o)|(with_reducible exact fh.drew)|(go_grown;done)|(go_grown;with_reducible exact h0.o))))
  (first
   |(go_at_call 258;go_split_ands;(with_reducible refine(vh c A n k s.cap _).mono ?_);rintro r wX ⟨rfl,h4⟩;have h2:=ze ((‹Below V.heap.size V _›).trans (h4.mono (‹Below V.heap.size V _›).size));(try clear h0);have h0:=ze h2.o;(try clear hc);have hc:=h0.o.size;clear h2 h4))
 all_goals
  go_wp2_with fail;go_ret2;exact .inl ⟨rfl,.inr (.inl HF.o),h8.o▸h6.o.trans (h0.o.mono (by omega))⟩
theorem ZF(s:Sc)(sA:iX)(sn sk:Nat)(h:Nat)(tA:iX)(tn tc:Nat)(I T f:Int)(base cb:Nat)(c:Cr)(A:iX)(n k B:Nat)(l:List Rid)(trips:List Tr)(S:HS)(w:l6)
  (hbx:Bx w cb (c.lv (.slice A n k)))(hr:Rds w B A n l)(hB:B<=w.heap.size)(hn:n<=1000)(H:Hl w h S)(hwf:hallK.wf (zL s I f c.dir))(hnw:S.nw<=1000000)(hd:c.dir≠0)(hf:(n:Int)<s.cap)(hL:S.L (zL s I f c.dir)=[]):
  Calls prog 233 #[aj s sA sn sk h (.slice tA tn tc) I T,.pointer (some ⟨cb,0,none⟩),O J f] w (InP base cb s c l I f T (.slice tA tn tc) trips h S w):=by
 have e1:(c.dir==0)=false:=by simpa using hd
 have e2:decide (s.cap<=(n:Int))=false:=by simp;omega
 have HD:=ze hd;have HF:=ze hf;have HH:=ze H;have hw:=ze hwf;have ha:=ze (fun V=>Jq s sA sn sk h tA tn tc I T f c.dir V);clear hd hf H hwf;have hi:=ze hbx;have hA:=hbx.lt (by simp);have HL:=ze hr.2
 go_in
 go_upto_region 1 with(fail);refine zq (w:=w) (fun V=>Bx V w.heap.size (ZD s sA sn sk h (.slice tA tn tc) I T)/\w.heap.size<V.heap.size) ⟨Bx.new w (ZD s sA sn sk h (.slice tA tn tc) I T) 328,by simp⟩ ((Below.refl w.heap.size w).alloc fi _) ?_;rintro V ⟨hx,h3⟩ hc;have HX:=ze hx;have hs:=ze hc;have hj:=ze (hi.o.below hc hA);have ho:cb<V.heap.size:=by omega
 generalize hq:w.heap.size=q at*;have hl:=ze hq;clear hx hc hi hq
 go_cut [24] (fun v wx=>v=.bool false/\Below V.heap.size V wx)
 case first=>
  have MK:=ze (fun W(hb:Below V.heap.size V W)=>(show c.K A n k W cb/\W.cell? ⟨q,3,none⟩=some (O J s.cap)/\Below V.heap.size V W from⟨(hj.o.below hb ho).k6 rfl,((HX.o.below hb h3) 3 _ rfl).1,hb⟩))
  go_region_held3 (fun W=>c.K A n k W cb/\W.cell? ⟨q,3,none⟩=some (O J s.cap)/\Below V.heap.size V W)
   (((refine MK.o _ ?_);(first|(with_reducible exact h1.o)|(with_reducible exact fh.drew)|(go_grown;done)|(go_grown;with_reducible exact h1.o))))
   (first
    |(go_at_call 258;go_split_ands;(with_reducible refine(vh c A n k s.cap _).mono ?_);rintro r wX ⟨rfl,h0⟩;have h4:=ze ((‹Below V.heap.size V _›).trans (h0.mono (‹Below V.heap.size V _›).size));(try clear h1);have h1:=ze h4.o;(try clear h7);have h7:=h1.o.size;clear h4 h0))
  all_goals(go_wp2_with fail;go_meet;exact⟨rfl,h1.o⟩)
 case rest=>
 obtain⟨rfl,he⟩:=hcut;have h9:=ze he;have h8:=he.size;clear he;go_upto_region 3 with(fail);obtain⟨W1,hy⟩:∃ W1,W1=wc:=⟨_,rfl⟩;subst hy
 go_cut [8] (fun v wx=>∃ q2:Nat,v=.pointer (some ⟨q2,0,none⟩)/\q2<wx.heap.size/\V.heap.size<=q2/\Bx wx q2 [O J (zL s I f c.dir).1,O J (zL s I f c.dir).2.1,O J (zL s I f c.dir).2.2]/\Below V.heap.size V wx)
 case first=>
  generalize hD:zL s I f c.dir=K0 at*;have MK2:=ze (fun W(hb:Below V.heap.size V W)=>(show s.K sA sn sk W q/\W.cell? ⟨q,13,none⟩=some (.pointer (some ⟨h,0,none⟩))/\W.cell? ⟨q,14,none⟩=some (.slice tA tn tc)/\W.cell? ⟨q,15,none⟩=some (O J I)/\W.cell? ⟨q,16,none⟩=some (O J T)/\W.cell? ⟨cb,1,none⟩=some (O J c.dir)/\Below V.heap.size V W from⟨(HX.o.below hb h3).k13 rfl,((HX.o.below hb h3) 13 _ rfl).1,((HX.o.below hb h3) 14 _ rfl).1,((HX.o.below hb h3) 15 _ rfl).1,((HX.o.below hb h3) 16 _ rfl).1,((hj.o.below hb ho) 1 _ rfl).1,hb⟩))
  go_region_held3 (fun W=>s.K sA sn sk W q/\W.cell? ⟨q,13,none⟩=some (.pointer (some ⟨h,0,none⟩))/\W.cell? ⟨q,14,none⟩=some (.slice tA tn tc)/\W.cell? ⟨q,15,none⟩=some (O J I)/\W.cell? ⟨q,16,none⟩=some (O J T)/\W.cell? ⟨cb,1,none⟩=some (O J c.dir)/\Below V.heap.size V W)
   (((refine MK2.o _ ?_);(first|(with_reducible exact h1.o)|(with_reducible exact h9.o)|(with_reducible exact h9.o.drew)|(with_reducible exact fh.drew)|(go_grown;done)|(go_grown;with_reducible exact h1.o)|(go_grown;with_reducible exact h9.o))))
   (first
    |(go_at_call 259;go_split_ands;(with_reducible refine(ha.o _).mono ?_);rintro r wX ⟨rfl,h0⟩;(try(have HZ:=ze (Bx.below (Bx.new W1.drew [O J 0,O J 0,O J 0] 360) h0 (by simp));have zz:W1.heap.size<wX.heap.size:=(by have:=h0.size;simp at this;omega);have d0:wX.cell? ⟨W1.heap.size,0,none⟩=some (O J 0):=zf h0 (by simp);have d1:wX.cell? ⟨W1.heap.size,1,none⟩=some (O J 0):=zf h0 (by simp);have d2:wX.cell? ⟨W1.heap.size,2,none⟩=some (O J 0):=zf h0 (by simp);have g0:wX.frozen? ⟨W1.heap.size,0,none⟩=false:=zG h0 (by simp) (by simp);have g1:wX.frozen? ⟨W1.heap.size,1,none⟩=false:=zG h0 (by simp) (by simp);have g2:wX.frozen? ⟨W1.heap.size,2,none⟩=false:=zG h0 (by simp) (by simp)));have h4:=ze ((‹Below V.heap.size V _›).trans (h0.mono (‹Below V.heap.size V _›).size));(try clear h1);have h1:=ze h4.o;(try clear h7);have h7:=h1.o.size;clear h4 h0))
  ·go_wp2_with fail
   go_meet
   exact⟨_,rfl,by simp,h7,Bx.new wX [O J K0.1,O J K0.2.1,O J K0.2.2] 360,h1.o.alloc h7 _⟩
  ·go_wp2_with fail
   go_meet
   exact⟨_,rfl,by simpa using zz,h8,((HZ.o.set 0 (O J K0.1)).set 1 (O J K0.2.1)).set 2 (O J K0.2.2),((h1.o.setCell (p:=⟨W1.heap.size,0,none⟩) h8 _).setCell (p:=⟨W1.heap.size,1,none⟩) h8 _).setCell (p:=⟨W1.heap.size,2,none⟩) h8 _⟩
 case rest=>
 obtain⟨q2,rfl,hE,hC,hp,h6⟩:=hcut;have hu:=ze hp;have h5:=ze h6;clear hp h6 h9 h8;obtain⟨W2,hz⟩:∃ W2,W2=wc:=⟨_,rfl⟩;subst hz;have h2:=ze ((hl.o▸hs.o:Below w.heap.size w V).trans (h5.o.mono (by have:=hl.o;omega)));have ht:=ze (HH.o.below h2.o);obtain⟨⟨x0,x1,x2,x3,x4,x5,x6,x7,x8,x9,x10,x11,x12,x13,x14,x15,x16⟩,-⟩:=(HX.o.below h5.o h3).o17;obtain⟨⟨y0,y1,y2⟩,-⟩:=hu.o.o3;have hv:=ze (J0 h S (zL s I f c.dir) W2 ht.o hw.o hnw);clear x0 x1 x2 x3 x4 x5 x6 x7 x8 x9 x10 x11 x12 x14 x15 x16;have hk:=ze hL;clear hL;go_wp2_with(go_at_call 260;refine hv.o.mono ?_;rintro r w3 hP;obtain⟨rfl,hm⟩:=TakeP.none_ hk.o hP;have hg:=ze hm;clear hP hm);go_ret2;exact .inl ⟨rfl,.inr (.inr hk.o),h2.o.trans ((hg.o.alloc (vD fi hg.o.size) _).mono (by have:=h2.o.size;omega))⟩
theorem ZG(s:Sc)(sA:iX)(sn sk:Nat)(h:Nat)(tA:iX)(tn tc:Nat)(I T f:Int)(base cb:Nat)(c:Cr)(A:iX)(n k B:Nat)(l:List Rid)(trips:List Tr)(S:HS)(w:l6)
  (hbx:Bx w cb (c.lv (.slice A n k)))(hr:Rds w B A n l)(hB:B<=w.heap.size)(hn:n<=1000)(H:Hl w h S)(hwf:hallK.wf (zL s I f c.dir))(hnw:S.nw<=1000000)(hd:c.dir≠0)(hf:(n:Int)<s.cap)(x:Wt)(tl:List Wt)(hL:S.L (zL s I f c.dir)=x::tl)(hXC:¬ Xh S h cb)(hXR:∀ b off,A=some ⟨b,off,none⟩->¬ Xh S h b)(ht:Own w base 87 7 kN (.slice tA tn tc) trips)(hne:∀ q,(Value.slice tA tn tc).ownBlock=some q->q≠cb)(hXT:∀ q,(Value.slice tA tn tc).ownBlock=some q->¬ Xh S h q)(hid0:0<=x.id)(hid1:x.id<trips.length)(hI:0<=I):
  Calls prog 233 #[aj s sA sn sk h (.slice tA tn tc) I T,.pointer (some ⟨cb,0,none⟩),O J f] w (InP base cb s c l I f T (.slice tA tn tc) trips h S w):=by
 have e1:(c.dir==0)=false:=by simpa using hd
 have e2:decide (s.cap<=(n:Int))=false:=by simp;omega
 have HD:=ze hd;have HF:=ze hf;have HH:=ze H;have H7:=ze hwf;have HA:=ze hXC;have HT:=ze ht;have am:=ze hne;have hR:=ze hXT;have HI:=ze hI;have dd:=ze hXR;have HR:=ze hr;have Hq:=ze (fun V=>Jq s sA sn sk h tA tn tc I T f c.dir V);clear hd hf H hwf hXC hXR ht hne hXT hI;have a4:=ze hbx;have e5:=hbx.lt (by simp);have HL:=ze hr.2
 go_in
 go_upto_region 1 with(fail);refine zq (w:=w) (fun V=>Bx V w.heap.size (ZD s sA sn sk h (.slice tA tn tc) I T)/\w.heap.size<V.heap.size) ⟨Bx.new w (ZD s sA sn sk h (.slice tA tn tc) I T) 328,by simp⟩ ((Below.refl w.heap.size w).alloc fi _) ?_;rintro V ⟨hx,hj⟩ HJ;have HX:=ze hx;have a3:=ze HJ;have H2:=ze (a4.o.below HJ e5);have H9:cb<V.heap.size:=by omega
 generalize c9:w.heap.size=q at*;have hg:=ze c9;clear hx HJ a4 c9
 go_cut [24] (fun v wx=>v=.bool false/\Below V.heap.size V wx)
 case first=>
  have MK:=ze (fun W(hb:Below V.heap.size V W)=>(show c.K A n k W cb/\W.cell? ⟨q,3,none⟩=some (O J s.cap)/\Below V.heap.size V W from⟨(H2.o.below hb H9).k6 rfl,((HX.o.below hb hj) 3 _ rfl).1,hb⟩))
  go_region_held3 (fun W=>c.K A n k W cb/\W.cell? ⟨q,3,none⟩=some (O J s.cap)/\Below V.heap.size V W)
   (((refine MK.o _ ?_);(first|(with_reducible exact h7.o)|(with_reducible exact fh.drew)|(go_grown;done)|(go_grown;with_reducible exact h7.o))))
   (first
    |(go_at_call 258;go_split_ands;(with_reducible refine(vh c A n k s.cap _).mono ?_);rintro r wX ⟨rfl,h6⟩;have hG:=ze ((‹Below V.heap.size V _›).trans (h6.mono (‹Below V.heap.size V _›).size));(try clear h7);have h7:=ze hG.o;(try clear hZ);have hZ:=h7.o.size;clear hG h6))
  all_goals(go_wp2_with fail;go_meet;exact⟨rfl,h7.o⟩)
 case rest=>
 obtain⟨rfl,HO⟩:=hcut;have H1:=ze HO;have H0:=HO.size;clear HO;go_upto_region 3 with(fail);obtain⟨W1,e3⟩:∃ W1,W1=wc:=⟨_,rfl⟩;subst e3
 go_cut [8] (fun v wx=>∃ q2:Nat,v=.pointer (some ⟨q2,0,none⟩)/\q2<wx.heap.size/\V.heap.size<=q2/\Bx wx q2 [O J (zL s I f c.dir).1,O J (zL s I f c.dir).2.1,O J (zL s I f c.dir).2.2]/\Below V.heap.size V wx)
 case first=>
  generalize ds:zL s I f c.dir=K0 at*;have MK2:=ze (fun W(hb:Below V.heap.size V W)=>(show s.K sA sn sk W q/\W.cell? ⟨q,13,none⟩=some (.pointer (some ⟨h,0,none⟩))/\W.cell? ⟨q,14,none⟩=some (.slice tA tn tc)/\W.cell? ⟨q,15,none⟩=some (O J I)/\W.cell? ⟨q,16,none⟩=some (O J T)/\W.cell? ⟨cb,1,none⟩=some (O J c.dir)/\Below V.heap.size V W from⟨(HX.o.below hb hj).k13 rfl,((HX.o.below hb hj) 13 _ rfl).1,((HX.o.below hb hj) 14 _ rfl).1,((HX.o.below hb hj) 15 _ rfl).1,((HX.o.below hb hj) 16 _ rfl).1,((H2.o.below hb H9) 1 _ rfl).1,hb⟩))
  go_region_held3 (fun W=>s.K sA sn sk W q/\W.cell? ⟨q,13,none⟩=some (.pointer (some ⟨h,0,none⟩))/\W.cell? ⟨q,14,none⟩=some (.slice tA tn tc)/\W.cell? ⟨q,15,none⟩=some (O J I)/\W.cell? ⟨q,16,none⟩=some (O J T)/\W.cell? ⟨cb,1,none⟩=some (O J c.dir)/\Below V.heap.size V W)
   (((refine MK2.o _ ?_);(first|(with_reducible exact h7.o)|(with_reducible exact H1.o)|(with_reducible exact H1.o.drew)|(with_reducible exact fh.drew)|(go_grown;done)|(go_grown;with_reducible exact h7.o)|(go_grown;with_reducible exact H1.o))))
   (first
    |(go_at_call 259;go_split_ands;(with_reducible refine(Hq.o _).mono ?_);rintro r wX ⟨rfl,h6⟩;(try(have HZ:=ze (Bx.below (Bx.new W1.drew [O J 0,O J 0,O J 0] 360) h6 (by simp));have zz:W1.heap.size<wX.heap.size:=(by have:=h6.size;simp at this;omega);have d0:wX.cell? ⟨W1.heap.size,0,none⟩=some (O J 0):=zf h6 (by simp);have d1:wX.cell? ⟨W1.heap.size,1,none⟩=some (O J 0):=zf h6 (by simp);have d2:wX.cell? ⟨W1.heap.size,2,none⟩=some (O J 0):=zf h6 (by simp);have g0:wX.frozen? ⟨W1.heap.size,0,none⟩=false:=zG h6 (by simp) (by simp);have g1:wX.frozen? ⟨W1.heap.size,1,none⟩=false:=zG h6 (by simp) (by simp);have g2:wX.frozen? ⟨W1.heap.size,2,none⟩=false:=zG h6 (by simp) (by simp)));have hG:=ze ((‹Below V.heap.size V _›).trans (h6.mono (‹Below V.heap.size V _›).size));(try clear h7);have h7:=ze hG.o;(try clear hZ);have hZ:=h7.o.size;clear hG h6))
  ·go_wp2_with fail
   go_meet
   exact⟨_,rfl,by simp,hZ,Bx.new wX [O J K0.1,O J K0.2.1,O J K0.2.2] 360,h7.o.alloc hZ _⟩
  ·go_wp2_with fail
   go_meet
   exact⟨_,rfl,by simpa using zz,H0,((HZ.o.set 0 (O J K0.1)).set 1 (O J K0.2.1)).set 2 (O J K0.2.2),((h7.o.setCell (p:=⟨W1.heap.size,0,none⟩) H0 _).setCell (p:=⟨W1.heap.size,1,none⟩) H0 _).setCell (p:=⟨W1.heap.size,2,none⟩) H0 _⟩
 case rest=>
 obtain⟨q2,rfl,eb,ec,c7,hU⟩:=hcut;have Ho:=ze c7;have h5:=ze hU;clear c7 hU H1 H0;obtain⟨W2,e4⟩:∃ W2,W2=wc:=⟨_,rfl⟩;subst e4;have h0:=ze ((hg.o▸a3.o:Below w.heap.size w V).trans (h5.o.mono (by have:=hg.o;omega)));have ab:=ze (HH.o.below h0.o);obtain⟨⟨x0,x1,x2,x3,x4,x5,x6,x7,x8,x9,x10,x11,x12,x13,x14,x15,x16⟩,-⟩:=(HX.o.below h5.o hj).o17;obtain⟨⟨y0,y1,y2⟩,-⟩:=Ho.o.o3;have b8:=ze (J0 h S (zL s I f c.dir) W2 ab.o H7.o hnw);clear x0 x1 x2 x3 x4 x5 x6 x7 x8 x9 x10 x11 x12 x14 x15 x16;have ak:=ze hL;obtain⟨xi,xf,xo,xc⟩:=x;obtain⟨m,hm⟩:=QM (show 0<=xi from hid0);have hy:m<trips.length:=by have:xi<trips.length:=hid1;omega
 obtain⟨t,ht⟩:∃ t,trips[m]?=some t:=⟨_,kD hy⟩;have H5:=ze ht;have ac:=ze hy;have HM:=ze hm;obtain⟨tg,tcap,cj,ch,hY,-,-,-⟩:=HT.o.at_ (by omega);simp only[We]at cj;obtain⟨rfl,rfl,rfl⟩:=cj;have bM:=am.o tg rfl;have HB:=ze (hR.o tg rfl);have hQ:=ze (show base<=tg/\tg<w.heap.size from⟨ch,hY⟩);clear hid0 hid1 hy ht hm am hR ch hY;go_upto_region 7 with(go_at_call 260;refine b8.o.mono ?_;rintro r w3 hP;obtain⟨rfl,nw,cc,hN,hV,bA⟩:=TakeP.some_ ak.o hP;have HN:=ze hN;have cV:=ze hV;have hs:=ze (fun hne:S.ne=>HS.ne.take (k:=zL s I f c.dir) hne bA S.mw nw);clear hP hN hV bA);clear x13 y0 y1 y2;have H8:=ze (fun p(hp:Xh S h p)=>HH.o.xlt hp);have ed:=h5.o.size;have ee:=HN.o.but.size;have a5:=ze ((H2.o.below h5.o H9).but HN.o.but (by omega) HA.o);have bd:=ze ((HX.o.below h5.o hj).but HN.o.but (by omega) (fun hp=>by have:=H8.o _ hp;have:=hg.o;omega));have ad:=ze (Ho.o.but HN.o.but (by omega) (fun hp=>by have:=H8.o _ hp;have:=hg.o;omega));have aA:=ze ((HR.o.1.below (h0.o.mono (hg.o▸hB))).but HN.o.but (by omega) dd.o);refine zq (w:=w3) (fun V4=>Bx V4 w3.heap.size [O J xi,O J xf,O J xo,O J xc]/\w3.heap.size<V4.heap.size) ⟨Bx.new w3 [O J xi,O J xf,O J xo,O J xc] 318,by simp⟩ ((Below.refl w3.heap.size w3).alloc fi _) ?_;rintro V4 ⟨ck,HC⟩ hw;have hA:=ze (a5.o.below hw (by omega));have be:=ze (bd.o.below hw (by omega));have af:=ze (ad.o.below hw (by omega));have H6:=ze ck;have ho:=ze hw;have b4:=ze (fun W(hb:Below V4.heap.size V4 W)=>(aA.o.below (hw.mono (by omega))).below (hb.mono (by have:=hw.size;omega)));generalize HW:w3.heap.size=q4 at*;have hD:cb<V4.heap.size:=by omega
 have bu:l.length<=1000000000:=by have:=HL.o;omega
 have al:=ze bu;have dr:B<=V4.heap.size:=by omega
 have cl:q<V4.heap.size:=by omega
 have c6:q2<V4.heap.size:=by omega
 clear ck hw bu a5 bd ad aA b8
 go_cut [] (fun wx=>∃ A' n' k',Own wx V4.heap.size 401 2 jS (.slice A' n' k') (l++[⟨xi,xo⟩])/\Bx wx cb (c.lv (.slice A' n' k'))/\But (fun p=>p=cb) V4 wx)
 case first=>
  obtain⟨⟨c0,c1,c2,c3,c4,c5⟩,-,-,-,-,-,f5⟩:=hA.o.o6;obtain⟨⟨b0,b1,b2,b3⟩,-⟩:=H6.o.o4;clear c0 c1 c2 c3 c4 b1 b3
  go_region_law (first
   |(refine Gx rfl _ _ 263 rfl underlying263 Rider.info rfl (by omega) (by omega) rfl (Own.nil _ _ _ 2 jS) l B _ n _ rfl HL.o (b4.o _ (by first|exact fh.drew|exact(fh.drew).alloc fi _)) (kV _) (by simp) (by omega) fi ?_;intro v6 w6 ha hS;have hM:=ze (show Own w6 _ 401 2 jS v6 l from ha);have b5:=ze hS.size;have h4:=ze (eU (V:=V4) hS (by first|exact fh.drew|exact(fh.drew).alloc fi _));(try(have cr:=ze (fun(j:Nat)(u:Value)(hu:(jS ⟨xi,xo⟩)[j]?=some u)=>zf hS (Yr V4.drew ⟨xi,xo⟩ _ rfl 401 j u hu))));have H3:=ze (fun p hp=>(show V4.heap.size<=p from vD (by first|exact fi|(simp;done)) (ha.row.lt p hp).1));have a8:=ze (eV (V:=V4) hS (by first|exact fh.drew|exact(fh.drew).alloc fi _));clear ha hS;obtain⟨⟨-,-,-,-,-,d5⟩,-,-,-,-,-,g5⟩:=(hA.o.below h4.o hD).o6;obtain⟨⟨a0,-,a2,-⟩,-⟩:=(H6.o.below h4.o HC).o4)
   |(refine jn (P:=prog) rfl _ _ 263 rfl underlying263 Rider.info rfl (by omega) (by omega) rfl (hM.o.alloc _) (⟨xi,xo⟩:Rid) ⟨_,0,none⟩ 1 rfl rfl (Yr _ _ _ rfl _) (Z6 _) al.o (vD b5.o (by simp)) ?_;intro v7 w7 k1 k2 k3;obtain⟨A',n',k',rfl,HU,hz⟩:=Own.slice k1;have d4:=ze k1;have h8:=ze (eL (V:=V4) k2 (h4.o.alloc h4.o.size _) H3.o);have d7:=ze (fun p hp=>H3.o p hp);have ar:=ze (Own.small k1 a8.o);clear k1 k2 k3 HU hz;obtain⟨⟨-,-,-,-,-,d5⟩,-,-,-,-,-,g5⟩:=(hA.o.below h8.o hD).o6)
   |(refine jn (P:=prog) rfl _ _ 263 rfl underlying263 Rider.info rfl (by omega) (by omega) rfl hM.o (⟨xi,xo⟩:Rid) ⟨_,0,none⟩ 1 rfl rfl cr.o (Z6 _) al.o b5.o ?_;intro v7 w7 k1 k2 k3;obtain⟨A',n',k',rfl,HU,hz⟩:=Own.slice k1;have d4:=ze k1;have h8:=ze (eL (V:=V4) k2 h4.o H3.o);have d7:=ze (fun p hp=>H3.o p hp);have ar:=ze (Own.small k1 a8.o);clear k1 k2 k3 HU hz;obtain⟨⟨-,-,-,-,-,d5⟩,-,-,-,-,-,g5⟩:=(hA.o.below h8.o hD).o6))
  all_goals(go_wp2_with fail;go_meet;exact⟨A',n',k',ar.o.setBelow hD _,(hA.o.below h8.o hD).set 5 _,But.one h8.o⟩)
 case rest=>
 obtain⟨A',n',k',hO,hX,HG⟩:=hcut;have Hs:=ze hO;have a6:=ze hX;have hk:=ze HG;obtain⟨V5,dX⟩:∃ V5,V5=wc:=⟨_,rfl⟩;subst dX;have eg:=HG.size;clear hO hX HG;have Hw:=ze (be.o.but hk.o cl (by omega));have ai:=ze (af.o.but hk.o c6 (by omega));have bb:=ze (H6.o.but hk.o HC (by omega));have c8:¬ Xh (S.at_ S.mw nw (zL s I f c.dir) cc tl) h cb:=fun hp=>HA.o (HN.o.x cb (by omega) hp)
 have ao:=ze c8;have d9:=ze (show Xh (S.at_ S.mw nw (zL s I f c.dir) cc tl) h q->q<q from fun hp=>by have h1:=HN.o.x q (by omega) hp;have:=H8.o q h1;have:=hg.o;omega);have a9:=ze ((HN.o.hl.below (by first|exact ho.o|(show Below w3.heap.size w3 _;rw[HW];exact ho.o))).but hk.o (fun p hp e=>ao.o (e▸hp)));have b6:=ze ((HT.o.below h0.o).but HN.o.but (fun p hp hx=>by have e:tg=p:=(by simpa[Value.ownBlock]using hp);exact HB.o (e▸hx)));have H4:=ze ((b6.o.below (by first|exact ho.o|(show Below w3.heap.size w3 _;rw[HW];exact ho.o))).but hk.o (fun p hp e=>by have e2:tg=p:=(by simpa[Value.ownBlock]using hp);exact bM (e2.trans e)));have ca:q<V5.heap.size/\q2<V5.heap.size/\q4<V5.heap.size/\cb<V5.heap.size:=by omega
 have hC:=ze ca;have a1:=ze (show But (fun p=>p=cb\/Xh S h p) w V5 from by
  have h1:But (fun p=>p=cb\/Xh S h p) W2 w3:=HN.o.but.mono (fun _ _ h=>.inr h);have h2:=(But.of_below (X:=fun p=>p=cb\/Xh S h p) h0.o).trans h1 (fun _ _ h=>h);have h3:=h2.then_ (by first|exact ho.o|(show Below w3.heap.size w3 _;rw[HW];exact ho.o));exact h3.trans hk.o (fun _ _ e=>.inl e))
 have bm:=ze (fun p(hp:Xh (S.at_ S.mw nw (zL s I f c.dir) cc tl) h p)=>(show p<V4.heap.size from by have:=HN.o.hl.xlt hp;omega));have bc:=ze (fun p(em:p<w.heap.size)(hp:Xh (S.at_ S.mw nw (zL s I f c.dir) cc tl) h p)=>HN.o.x p (by have:=h0.o.size;omega) hp);have b9:=ze (show w.heap.size<=V4.heap.size/\V4.heap.size<=V5.heap.size from⟨by have:=h0.o.size;omega,hk.o.size⟩);clear HT b6 c8 hk hA be af H6 b4 HH ab Ho h5 h0 HX H2 cl c6 HC hD ed ee eg eb dr ca hj H9 HR HN ho hbx hr;have m0:(0:Int)<=xi:=by have:=HM.o;omega
 have m1:xi<(trips.length:Int):=by have:=HM.o;have:=ac.o;omega
 have m2:xi.toNat=m:=by have:=HM.o;omega
 go_upto_region 8 with(fail)
 go_cut [] (fun wx=>Own wx base 87 7 kN (.slice (some ⟨tg,0,none⟩) trips.length tc) (trips.set m {t with car:=I,bo:=T})/\But (fun p=>p=tg) V5 wx)
 case first=>
  obtain⟨⟨x0,x1,x2,x3,x4,x5,x6,x7,x8,x9,x10,x11,x12,x13,x14,x15,x16⟩,-⟩:=Hw.o.o17;obtain⟨⟨b0,b1,b2,b3⟩,-⟩:=bb.o.o4;obtain⟨z4,y4⟩:=H4.o.elem_cell qE rfl H5.o (show 4<7 by omega) rfl;obtain⟨z5,y5⟩:=H4.o.elem_cell qE rfl H5.o (show 5<7 by omega) rfl;clear x0 x1 x2 x3 x4 x5 x6 x7 x8 x9 x10 x11 x12 x13 b1 b2 b3;have eq:=hC.o;go_region
  all_goals(
   go_wp2_with fail
   go_meet
   have hi:=ac.o;have s1:=(H4.o.storeF qE rfl H5.o (x':={t with car:=I}) (j:=4) (u:=O J I) rfl (by omega)).1;have s2:=(s1.storeF qE (by rw[ye]) (z:=m) (j:=5) (x:={t with car:=I}) (x':={t with car:=I,bo:=T}) (u:=O J T) (by rw[vt];simp[hi]) rfl (by omega)).1;rw[cW]at s2;exact⟨s2.drew,((But.two (o:=m*7+4) (o':=m*7+5)).drew)⟩)
 case rest=>
 obtain⟨bx,HE⟩:=hcut;obtain⟨V6,e0⟩:∃ V6,V6=wc:=⟨_,rfl⟩;subst e0;have b7:=ze bx;have h4:=ze HE;have bk:=ze (Hw.o.but h4.o hC.o.1 (fun e=>by have:=hQ.o;have:=hg.o;omega));have cy:=ze (ai.o.but h4.o hC.o.2.1 (fun e=>by have:=hQ.o;have:=hg.o;have:=a3.o.size;omega));have a7:=ze (a6.o.but h4.o hC.o.2.2.2 (fun e=>bM e.symm));have cB:=ze (show¬Xh (S.at_ S.mw nw (zL s I f c.dir) cc tl) h tg from fun hp=>HB.o (bc.o tg hQ.o.2 hp));have Hj:=ze (a9.o.but h4.o (fun p hp e=>cB.o (e▸hp)));have hM:=ze (Hs.o.but h4.o (fun p hp e=>by have:=(Hs.o.row.lt p hp).1;have:=hQ.o;have:=b9.o;omega));have hW:q<V6.heap.size/\q2<V6.heap.size/\cb<V6.heap.size:=by have:=hC.o;have:=HE.size;omega
 have hv:=ze hW;have cn:∀ p',(Value.slice A' n' k').ownBlock=some p'->¬ Xh (S.at_ S.mw nw (zL s I f c.dir) cc tl) h p':=fun p' ea hp=>by have h1:=bm.o p' hp;have h2:=(hM.o.row.lt p' ea).1;omega
 have Hk:=ze (show InS base cb c l I T (.slice (some ⟨tg,0,none⟩) trips.length tc) trips h S (qf S.L (zL s I f c.dir) tl) ⟨xi,xf,xo,xc⟩ t w A' n' k' (S.at_ S.mw nw (zL s I f c.dir) cc tl) V6 from
  ⟨hM.o.small b9.o.1,a7.o,by rw[show(⟨xi,xf,xo,xc⟩:Wt).id.toNat=m from m2];exact b7.o,⟨Hj.o,bc.o,rfl,cV.o,by show S.nc<=S.nc+1;omega⟩,
   (a1.o.mono (Y:=fun p=>p=cb\/(Value.slice (some ⟨tg,0,none⟩) trips.length tc).ownBlock=some p\/Xh S h p) (fun _ _ hx=>hx.elim .inl (fun h=>.inr (.inr h)))).trans h4.o (fun _ _ e=>.inr (.inl (by rw[e];rfl))),cn⟩)
 have hq:=ze (show∀(W:l6)(S':HS)(gone:Bool),InFc s f c.dir tl S S' gone->InS base cb c l I T (.slice (some ⟨tg,0,none⟩) trips.length tc) trips h S (qf S.L (zL s I f c.dir) tl) ⟨xi,xf,xo,xc⟩ t w A' n' k' S' W->InP base cb s c l I f T (.slice (some ⟨tg,0,none⟩) trips.length tc) trips h S w (.returned (.tuple #[.bool true,.bool gone])) W from
  fun W S' gone e7 H=>.inr ⟨⟨xi,xf,xo,xc⟩,tl,t,A',n',k',S',gone,rfl,HD.o,by rw[HL.o];exact HF.o,ak.o,by rw[show(⟨xi,xf,xo,xc⟩:Wt).id.toNat=m from m2];exact H5.o,H.o,H.b,H.t,H.hh,e7,H.but,H.ro⟩)
 clear H4 b7 bx HE h4 Hw ai a6 a9 Hs a1 hW cn bb hC a7;obtain⟨⟨y0,y1,y2⟩,-⟩:=cy.o.o3;by_cases hE:s.disp=4
 ·have e9:decide ((zL s I f c.dir).2.2<0)=false:=by
   unfold zL;rw[if_pos hE];have:=HI.o;simp;omega
  have Hc:=ze hE;clear hE;generalize ei:(zL s I f c.dir).2.2=K2 at*;clear y0 y1;go_wp2_with fail;go_ret2;exact hq.o _ _ _ ⟨hs.o,.inl ⟨.inl Hc.o,rfl,rfl⟩⟩ Hk.o
 ·have e9:decide ((zL s I f c.dir).2.2<0)=true:=by
   unfold zL;rw[if_neg hE];simp
  have Hc:=ze hE;clear hE;obtain⟨⟨x0,x1,x2,x3,x4,x5,x6,x7,x8,x9,x10,x11,x12,x13,x14,x15,x16⟩,-⟩:=bk.o.o17;clear x0 x1 x2 x3 x4 x5 x6 x7 x8 x9 x10 x11 x12 x14 x15 x16;have hJ:=ze (WJ h (S.at_ S.mw nw (zL s I f c.dir) cc tl) (zL s I f c.dir) V6 Hj.o H7.o);have bs:=ze (show(((S.at_ S.mw nw (zL s I f c.dir) cc tl).fw (zL s I f c.dir)).getD ⟨none,0,0⟩).n=tl.length from by rw[Hj.o.len_eq];exact congrArg List.length (jp _ _ _));generalize((S.at_ S.mw nw (zL s I f c.dir) cc tl).fw (zL s I f c.dir)).getD ⟨none,0,0⟩=sl at*;obtain⟨sA2,z,sc2⟩:=sl;have d8:=ze (show cellK.wf (f,c.dir)from⟨H7.o.1,H7.o.2.1⟩);generalize ds:zL s I f c.dir=K0 at*;by_cases hF:z=0
  ·have ez:((z:Int)==0)=true:=by simp[hF]
   have dk:=ze hF;clear hF;go_wp2_with(go_at_call 261;refine hJ.o.mono ?_;rintro r w7 ⟨rfl,hT⟩;have h8:=ze hT;clear hT);have he:=ze (Hk.o.below h8.o);have bl:=ze (bk.o.below h8.o hv.o.1);have cp:=h8.o.size;have cs:=ze (VE h (S.at_ S.mw nw K0 cc tl) f c.dir w7.drew (he.o.hh.hl.below fh.drew) d8.o);have cz:=ze (show w7.drew.cell? ⟨q,13,none⟩=some (.pointer (some ⟨h,0,none⟩))/\w7.drew.cell? ⟨cb,1,none⟩=some (O J c.dir)from⟨(bl.o.drew 13 _ rfl).1,(he.o.b.drew 1 _ rfl).1⟩);have Ha:=ze (fun fc W(hc:JN w7.drew h (S.at_ S.mw nw K0 cc tl) fc W)=>(show W.cell? ⟨q,13,none⟩=some (.pointer (some ⟨h,0,none⟩))/\W.cell? ⟨cb,1,none⟩=some (O J c.dir)from by
    obtain⟨mc,nc,hn,-⟩:=hc;exact⟨(bl.o.drew.but hn.but (by simpa using kK hv.o.1 cp) (fun hp=>by have:=bm.o _ hp;have:=H8.o;have h9:=d9.o hp;omega) 13 _ rfl).1,(he.o.b.drew.but hn.but (by simpa using kK hv.o.2.2 cp) (fun hp=>ao.o hp) 1 _ rfl).1⟩))
   go_region_held3 (fun W=>W.cell? ⟨q,13,none⟩=some (.pointer (some ⟨h,0,none⟩))/\W.cell? ⟨cb,1,none⟩=some (O J c.dir))
    (first|(with_reducible exact cA.o)|(with_reducible exact cz.o))
    (first|(go_at_call 262;go_split_ands;(with_reducible refine cs.o.mono ?_);rintro r w8 ⟨rfl,HP⟩;obtain⟨gone,HQ⟩:∃ g,g=((S.at_ S.mw nw K0 cc tl).fc (f,c.dir)).isSome:=⟨_,rfl⟩;rw[<-HQ];have cx:=ze HQ;have cv:=ze HP;have cA:=ze (Ha.o _ _ HP);clear HP HQ))
   all_goals(
    go_wp2_with fail;go_ret2;have HY:∀ p,(Value.slice (some ⟨tg,0,none⟩) trips.length tc).ownBlock=some p->¬ Xh S h p/\p<w.heap.size:=fun p hp=>by
     have e:tg=p:=by simpa[Value.ownBlock]using hp
     exact e▸⟨HB.o,hQ.o.2⟩
    obtain⟨S2,e6,e8,dw⟩:=(he.o.below fh.drew).calls cv.o fi HA.o (by have:=hg.o;omega) HY;exact hq.o _ _ _ ⟨fun hne=>e8 (hs.o hne),.inr ⟨Hc.o,yj (by have h1:=bs.o;have h2:=dk.o;exact h1.symm.trans h2),e6,cx.o⟩⟩ dw)
  ·have ez:((z:Int)==0)=false:=by simp[hF]
   have d3:=ze hF;clear hF;go_wp2_with(go_at_call 261;refine hJ.o.mono ?_;rintro r w7 ⟨rfl,hT⟩;have h8:=ze hT;clear hT);go_ret2;exact hq.o _ _ _ ⟨hs.o,.inl ⟨.inr (fun e=>d3.o (by have h1:=bs.o;rw[e]at h1;exact h1)),rfl,rfl⟩⟩ (Hk.o.below h8.o)
theorem Gy(s:Sc)(sA:iX)(sn sk:Nat)(h:Nat)(tA:iX)(tn tc:Nat)(I T f:Int)(base cb:Nat)(c:Cr)(A:iX)(n k B:Nat)(l:List Rid)(trips:List Tr)(S:HS)(w:l6)
  (hbx:Bx w cb (c.lv (.slice A n k)))(hr:Rds w B A n l)(hB:B<=w.heap.size)(hn:n<=1000)(H:Hl w h S)(hwf:hallK.wf (zL s I f c.dir))(hnw:S.nw<=1000000)(hXC:¬ Xh S h cb)(hXR:∀ b off,A=some ⟨b,off,none⟩->¬ Xh S h b)(ht:Own w base 87 7 kN (.slice tA tn tc) trips)(hne:∀ q,(Value.slice tA tn tc).ownBlock=some q->q≠cb)(hXT:∀ q,(Value.slice tA tn tc).ownBlock=some q->¬ Xh S h q)(hid:∀ x∈S.L (zL s I f c.dir),0<=x.id/\x.id<trips.length)(hI:0<=I):
  Calls prog 233 #[aj s sA sn sk h (.slice tA tn tc) I T,.pointer (some ⟨cb,0,none⟩),O J f] w (InP base cb s c l I f T (.slice tA tn tc) trips h S w):=by
 by_cases hd:c.dir=0
 ·exact Qq s sA sn sk h tA tn tc I T f base cb c A n k B l trips S w hbx hr hB hn hd
 ·by_cases hf:s.cap<=(n:Int)
  ·exact ZE s sA sn sk h tA tn tc I T f base cb c A n k B l trips S w hbx hr hB hn hd hf
  ·cases hL:S.L (zL s I f c.dir)with
   |nil=>exact ZF s sA sn sk h tA tn tc I T f base cb c A n k B l trips S w hbx hr hB hn H hwf hnw hd (by omega) hL
   |cons x tl=>
    have hx:=hid x (by rw[hL];exact xz ..);exact ZG s sA sn sk h tA tn tc I T f base cb c A n k B l trips S w hbx hr hB hn H hwf hnw hd (by omega) x tl hL hXC hXR ht hne hXT hx.1 hx.2 hI
def SvRel(s:Sc)(I f T D:Int)(c:Cr)(l:List Rid)(trips:List Tr)(L:HK->List Wt)(c':Cr)(l':List Rid)(trips':List Tr)(L':HK->List Wt):Prop:=
 (∃j r t,l[j]?=some r/\r.to_=f/\trips[r.id.toNat]?=some t/\c'=⟨c.pos,D,3,s.tr,false⟩/\l'=l.take j++l.drop (j+1)/\trips'=trips.set r.id.toNat {t with al:=T}/\L'=L)\/
 (∃x tl t,(∀r∈l,r.to_≠f)/\D≠0/\(l.length:Int)<s.cap/\L (zL s I f D)=x::tl/\trips[x.id.toNat]?=some t/\c'=⟨c.pos,D,3,s.tr,false⟩/\l'=l++[⟨x.id,x.to_⟩]/\trips'=trips.set x.id.toNat {t with car:=I,bo:=T}/\L'=qf L (zL s I f D) tl)\/
 ((∀r∈l,r.to_≠f)/\(D=0\/s.cap<=(l.length:Int)\/L (zL s I f D)=[])/\l'=l/\trips'=trips/\L'=L/\c'=if c.wt=true then⟨c.pos,D,4,s.cl,false⟩else⟨c.pos,D,3,s.dw,true⟩)
section
variable{s:Sc}{I f T D:Int}{c c':Cr}{l l':List Rid}{trips trips':List Tr}{L L':HK->List Wt}{R:List (List Rid)}{i:Nat}
theorem SvRel.inv(h:SvRel s I f T D c l trips L c' l' trips' L')(hi:Inv T trips L R)(hl:R[i]?=some l)(hT:0<=T):Inv T trips' L' (R.set i l'):=by
 rcases h with⟨j,r,t,h1,-,h2,-,rfl,rfl,rfl⟩|⟨x,tl,t,-,-,-,h1,h2,-,rfl,rfl,rfl⟩|⟨-,-,rfl,rfl,rfl,-⟩
 ·exact hi.o hl (jx h1) (fun x hx=>by
   rcases yp.1 hx with hx|hx
   ·exact List.mem_of_mem_take hx
   ·exact List.mem_of_mem_drop hx) h2
 ·exact hi.in_ h1 I x.to_ hl h2 hT
 ·rw[Ys hl];exact hi
theorem SvRel.len(h:SvRel s I f T D c l trips L c' l' trips' L'):trips'.length=trips.length:=by
 rcases h with⟨j,r,t,h1,-,h2,-,-,rfl,-⟩|⟨x,tl,t,-,-,-,h1,h2,-,-,rfl,-⟩|⟨-,-,-,rfl,-,-⟩<;>simp
theorem SvRel.cap(h:SvRel s I f T D c l trips L c' l' trips' L')(hl:(l.length:Int)<=s.cap):(l'.length:Int)<=s.cap:=by
 rcases h with⟨j,r,t,h1,-,h2,-,rfl,-,-⟩|⟨x,tl,t,-,-,h0,h1,h2,-,rfl,-,-⟩|⟨-,-,rfl,-,-,-⟩
 ·have:=(qd.1 h1).1;rw[kC,XT,List.length_drop];omega
 ·rw[kC,Jp];omega
 ·exact hl
theorem SvRel.car(h:SvRel s I f T D c l trips L c' l' trips' L')(hs:s.ok):c'.pos=c.pos/\c'.dir=D/\(c'.mode=3\/c'.mode=4)/\1<=c'.left/\c'.left<=64:=by
 have h1:=hs.tr;have h2:=hs.dw;have h3:=hs.cl;rcases h with⟨j,r,t,-,-,-,rfl,-⟩|⟨x,tl,t,-,-,-,-,-,rfl,-⟩|⟨-,-,-,-,-,rfl⟩
 ·exact⟨rfl,rfl,.inl rfl,h1.1,h1.2⟩
 ·exact⟨rfl,rfl,.inl rfl,h1.1,h1.2⟩
 ·split
  ·exact⟨rfl,rfl,.inr rfl,h3.1,h3.2⟩
  ·exact⟨rfl,rfl,.inl rfl,h2.1,h2.2⟩
end
structure ServS(base:Nat)(A:iX)(tv:Value)(h:Nat)(S:HS)(trips':List Tr)(L':HK->List Wt)(l':List Rid)(A':iX)(n' k':Nat)(S':HS)(w w':l6):Prop where
 r:Rds w' w'.heap.size A' n' l'
 k:n'<=k'
 rb:∀ b off,A'=some ⟨b,off,none⟩->(w.heap.size<=b\/∃ o,A=some ⟨b,o,none⟩)/\¬ Xh S' h b/\b<w'.heap.size
 t:Own w' base 87 7 kN tv trips'
 hh:HallTo w h S w' S' L'
 but:But (fun q=>tv.ownBlock=some q\/Xh S h q) w w'
theorem ServS.set{base:Nat}{A:iX}{tv:Value}{h:Nat}{S:HS}{trips':List Tr}{L':HK->List Wt}{l':List Rid}{A':iX}{n' k':Nat}{S':HS}{w w':l6}(H:ServS base A tv h S trips' L' l' A' n' k' S' w w'){q:Nat}(o:Nat)(u:Value)(hq:w.heap.size<=q)(hA:∀ b off,A'=some ⟨b,off,none⟩->b≠q)(hx:¬ Xh S' h q)(ht:∀ p,tv.ownBlock=some p->p≠q):ServS base A tv h S trips' L' l' A' n' k' S' w (w'.setCell ⟨q,o,none⟩ u):=by
 have hb:But (fun p=>p=q) w' (w'.setCell ⟨q,o,none⟩ u):=HB.But.one fh;refine⟨⟨?_,H.r.2⟩,H.k,fun b off e=>by simpa using H.rb b off e,H.t.but hb (fun p hp e=>ht p hp e),⟨H.hh.hl.but hb (fun p hp e=>hx (e▸hp)),H.hh.x,H.hh.L,H.hh.nw,H.hh.nc⟩,H.but.trans hb (fun i hi e=>by omega)⟩;have:=H.r.1.but hb fi (fun b off e hb=>hA b off e hb);simpa using this
theorem ServS.sets{base:Nat}{A:iX}{tv:Value}{h:Nat}{S:HS}{trips':List Tr}{L':HK->List Wt}{l':List Rid}{A':iX}{n' k':Nat}{S':HS}{q:Nat}{w:l6}(hq:w.heap.size<=q)(hA:∀ b off,A'=some ⟨b,off,none⟩->b≠q)(hx:¬ Xh S' h q)(ht:∀ p,tv.ownBlock=some p->p≠q):∀(L:List (Nat×Value))(w':l6),ServS base A tv h S trips' L' l' A' n' k' S' w w'->ServS base A tv h S trips' L' l' A' n' k' S' w (L.foldl (fun v x=>v.setCell ⟨q,x.1,none⟩ x.2) w')
 |[],_,H=>H
 |x::L,w',H=>ServS.sets hq hA hx ht L _ (H.set x.1 x.2 hq hA hx ht)
def SvX(s:Sc)(I f D:Int)(S S':HS)(gone:Bool):Prop:=(S.ne->S'.ne)/\((S'.fc=S.fc/\gone=false/\(s.disp=4\/S'.L=S.L\/S'.L (zL s I f D)≠[]))\/(s.disp≠4/\S'.L (zL s I f D)=[]/\S'.fc=upd S.fc (f,D) none/\gone=(S.fc (f,D)).isSome))
theorem SvX.same(s:Sc)(I f D:Int)(S:HS):SvX s I f D S S false:=⟨fun h=>h,.inl ⟨rfl,rfl,.inr (.inl rfl)⟩⟩
theorem InFc.sv{s:Sc}{I f D:Int}{S S':HS}{tl:List Wt}{gone:Bool}(h:InFc s f D tl S S' gone)(hL:S'.L=qf S.L (zL s I f D) tl):SvX s I f D S S' gone:=by
 have e:S'.L (zL s I f D)=tl:=by rw[hL,jp]
 refine⟨h.1,?_⟩;rcases h.2 with⟨h1,h2,h3⟩|⟨h1,h2,h3,h4⟩
 ·exact .inl ⟨h2,h3,h1.elim .inl fun h=>.inr (.inr (e▸h))⟩
 ·exact .inr ⟨h1,e.trans h2,h3,h4⟩
def Gz(s:Sc)(I f T:Int)(c:Cr)(l:List Rid)(trips:List Tr)(base:Nat)(A:iX)(tv:Value)(h:Nat)(S:HS)(w:l6)(e:Ending)(w':l6):Prop:=
 ∃(D:Int)(c':Cr)(l':List Rid)(trips':List Tr)(L':HK->List Wt)(A':iX)(n' k':Nat)(S':HS)(gone:Bool),e=.returned (.tuple #[c'.v A' n' k',.bool gone])/\-1<=D/\D<=1/\D=(yy s.cap l (Ld S.fc S.fw I)).of f c.dir/\SvX s I f D S S' gone/\SvRel s I f T D c l trips S.L c' l' trips' L'/\ServS base A tv h S trips' L' l' A' n' k' S' w w'
abbrev d6(s:Sc)(sA:iX)(sn sk h:Nat)(cv tv:Value)(T:Int):iZ:=[O J s.fl,O J s.gap,O J s.cars,O J s.cap,O J s.opn,O J s.dw,O J s.cl,O J s.tr,.slice sA sn sk,O J s.disp,O J s.hor,O J s.bins,O J s.width,.pointer (some ⟨h,0,none⟩),cv,tv,O J T]
def Wx(wb h:Nat)(S:HS)(cv tv:Value)(k:Nat):Prop:=k=wb\/Xh S h k\/cv.ownBlock=some k\/tv.ownBlock=some k
def RBk(L:List Ca)(k:Nat):Prop:=∃ x∈L,∃off,x.A=some ⟨k,off,none⟩
structure Wd(base:Nat)(s:Sc)(sA:iX)(sn sk wb h:Nat)(w:l6)(S:HS)(cv tv:Value)(L:List Ca)(trips:List Tr)(T:Int):Prop where
 bx:Bx w wb (d6 s sA sn sk h cv tv T)
 wl:base<=wb
 hl:Hl w h S
 hb:∀ k,Xh S h k->base<=k
 cr:Own w base 265 6 QW cv L
 ri:∀ x∈L,Rds w w.heap.size x.A x.n x.l/\x.n<=x.k
 tr:Own w base 87 7 kN tv trips
 s1:¬ Xh S h wb
 s2:∀ p,cv.ownBlock=some p->p≠wb/\¬ Xh S h p/\tv.ownBlock≠some p
 s3:∀ p,tv.ownBlock=some p->p≠wb/\¬ Xh S h p
 s4:∀ k,RBk L k->base<=k/\k<w.heap.size/\¬ Wx wb h S cv tv k
structure WdN(base:Nat)(s:Sc)(sA:iX)(sn sk wb h:Nat)(w:l6)(S:HS)(cv tv:Value)(L:List Ca)(w':l6)(S':HS)(cv' tv':Value)(L':List Ca)(trips':List Tr)(T':Int):Prop where
 wd:Wd base s sA sn sk wb h w' S' cv' tv' L' trips' T'
 but:But (Wx wb h S cv tv) w w'
 x:∀ k,k<w.heap.size->Wx wb h S' cv' tv' k->Wx wb h S cv tv k
 r:∀ k,k<w.heap.size->RBk L' k->RBk L k
section
variable{base:Nat}{s:Sc}{sA:iX}{sn sk wb h:Nat}{w w1 w':l6}{S S1 S':HS}{cv cv1 cv' tv tv1 tv':Value}{L L1 L':List Ca}{trips trips1 trips':List Tr}{T T1 T':Int}
theorem HB.Own.lt{α:Type}{w:l6}{base:Nat}{e:TypeId}{sz:Nat}{f:α->iZ}{v:Value}{l:List α}(h:Own w base e sz f v l){k:Nat}(hk:v.ownBlock=some k):base<=k/\k<w.heap.size:=h.row.lt k hk
theorem Wd.xlt(H:Wd base s sA sn sk wb h w S cv tv L trips T){k:Nat}(hk:Wx wb h S cv tv k):base<=k/\k<w.heap.size:=by
 rcases hk with rfl|hk|hk|hk
 ·exact⟨H.wl,H.bx.lt (by simp)⟩
 ·exact⟨H.hb k hk,H.hl.xlt hk⟩
 ·exact H.cr.lt hk
 ·exact H.tr.lt hk
theorem HB.Rds.but{w w':l6}{X:Nat->Prop}{A:iX}{n:Nat}{l:List Rid}(h:Rds w w.heap.size A n l)(hb:But X w w')(hx:∀ b off,A=some ⟨b,off,none⟩->¬ X b):Rds w' w'.heap.size A n l:=
 ⟨(h.1.but hb fi hx).mono hb.size,h.2⟩
theorem Wd.but_{X:Nat->Prop}(H:Wd base s sA sn sk wb h w S cv tv L trips T)(hb:But X w w')(hx:∀ k,Wx wb h S cv tv k->¬ X k)(hr:∀ k,RBk L k->¬ X k):Wd base s sA sn sk wb h w' S cv tv L trips T where
 bx:=H.bx.but hb (H.bx.lt (by simp)) (hx _ (.inl rfl))
 wl:=H.wl
 hl:=H.hl.but hb (fun k hk=>hx k (.inr (.inl hk)))
 hb:=H.hb
 cr:=H.cr.but hb (fun k hk=>hx k (.inr (.inr (.inl hk))))
 ri:=fun x h0=>⟨HB.Rds.but (H.ri x h0).1 hb (fun b off e=>hr b ⟨x,h0,off,e⟩),(H.ri x h0).2⟩
 tr:=H.tr.but hb (fun k hk=>hx k (.inr (.inr (.inr hk))))
 s1:=H.s1
 s2:=H.s2
 s3:=H.s3
 s4:=fun k hk=>⟨(H.s4 k hk).1,kK (H.s4 k hk).2.1 hb.size,(H.s4 k hk).2.2⟩
theorem Wd.below(H:Wd base s sA sn sk wb h w S cv tv L trips T)(hb:Below w.heap.size w w'):Wd base s sA sn sk wb h w' S cv tv L trips T:=
 H.but_ (X:=fun _=>False) (But.of_below hb) (fun _ _ h=>h) (fun _ _ h=>h)
theorem WdN.refl(H:Wd base s sA sn sk wb h w S cv tv L trips T)(hb:Below w.heap.size w w'):WdN base s sA sn sk wb h w S cv tv L w' S cv tv L trips T:=
 ⟨H.below hb,But.of_below hb,fun _ _ h=>h,fun _ _ h=>h⟩
theorem WdN.trans(a:WdN base s sA sn sk wb h w S cv tv L w1 S1 cv1 tv1 L1 trips1 T1)(b:WdN base s sA sn sk wb h w1 S1 cv1 tv1 L1 w' S' cv' tv' L' trips' T'):WdN base s sA sn sk wb h w S cv tv L w' S' cv' tv' L' trips' T':=
 ⟨b.wd,a.but.trans b.but (fun i hi hx=>a.x i hi hx),fun k hk hx=>a.x k hk (b.x k (kK hk a.but.size) hx),fun k hk hr=>a.r k hk (b.r k (kK hk a.but.size) hr)⟩
theorem WdN.below(a:WdN base s sA sn sk wb h w S cv tv L w1 S1 cv1 tv1 L1 trips1 T1)(hb:Below w1.heap.size w1 w'):WdN base s sA sn sk wb h w S cv tv L w' S1 cv1 tv1 L1 trips1 T1:=
 a.trans (WdN.refl a.wd hb)
theorem RBk.set{i:Nat}{x:Ca}{k:Nat}(h:RBk (L.set i x) k):RBk L k\/∃ off,x.A=some ⟨k,off,none⟩:=by
 obtain⟨y,hy,off,e⟩:=h;obtain⟨j,hj⟩:=Z5 hy;rcases zx hj with⟨-,rfl,-⟩|⟨-,hj⟩
 ·exact .inr ⟨off,e⟩
 ·exact .inl ⟨y,jx hj,off,e⟩
def Xt(w:l6)(g o:Nat)(x:Ca):l6:=(((((w.setCell ⟨g,o+0,none⟩ (O J x.c.pos)).setCell ⟨g,o+1,none⟩ (O J x.c.dir)).setCell ⟨g,o+2,none⟩ (O J x.c.mode)).setCell ⟨g,o+3,none⟩ (O J x.c.left)).setCell ⟨g,o+4,none⟩ (.bool x.c.wt)).setCell ⟨g,o+5,none⟩ (.slice x.A x.n x.k)
theorem zh(x:Ca):(QW x).length=6:=rfl
theorem Own.car6{g n c i:Nat}{x y:Ca}(H:Own w base 265 6 QW (.slice (some ⟨g,0,none⟩) n c) L)(hn:L.length=n)(hi:L[i]?=some x):Own (Xt w g (i*6) y) base 265 6 QW (.slice (some ⟨g,0,none⟩) n c) (L.set i y)/\But (fun q=>q=g) w (Xt w g (i*6) y):=by
 have h4:=(qd.1 hi).1;have step:∀{w1:l6}{z z':Ca}(j:Nat)(u:Value),Own w1 base 265 6 QW (.slice (some ⟨g,0,none⟩) n c) (L.set i z)->QW z'=(QW z).set j u->j<6->Own (w1.setCell ⟨g,i*6+j,none⟩ u) base 265 6 QW (.slice (some ⟨g,0,none⟩) n c) (L.set i z'):=by
  intro w1 z z' j u h1 h2 h3;have:=(h1.storeF zh (by rw[ye];exact hn) (z:=i) (j:=j) (x:=z) (x':=z') (u:=u) (by rw[vt];simp[h4]) h2 h3).1
  rwa [cW]at this
 have h0:Own w base 265 6 QW (.slice (some ⟨g,0,none⟩) n c) (L.set i x):=by rw[Ys hi];exact H
 have a0:=step (z':={x with c:={x.c with pos:=y.c.pos}}) 0 (O J y.c.pos) h0 rfl (by omega);have a1:=step (z':={x with c:={x.c with pos:=y.c.pos,dir:=y.c.dir}}) 1 (O J y.c.dir) a0 rfl (by omega);have a2:=step (z':={x with c:={x.c with pos:=y.c.pos,dir:=y.c.dir,mode:=y.c.mode}}) 2 (O J y.c.mode) a1 rfl (by omega);have a3:=step (z':={x with c:={x.c with pos:=y.c.pos,dir:=y.c.dir,mode:=y.c.mode,left:=y.c.left}}) 3 (O J y.c.left) a2 rfl (by omega);have a4:=step (z':={x with c:=y.c}) 4 (.bool y.c.wt) a3 rfl (by omega);have a5:=step (z':=y) 5 (.slice y.A y.n y.k) a4 rfl (by omega);exact⟨a5,(((((HB.But.one fh).at1 rfl _ _).at1 rfl _ _).at1 rfl _ _).at1 rfl _ _).at1 rfl _ _⟩
end
theorem kW{B:Nat}{w W:l6}{q:Nat}(h:Below B w W)(hq:B<=q)(u0 u1 u2 u3 u4 u5:Value):Below B w ((((((W.setCell ⟨q,0,none⟩ u0).setCell ⟨q,1,none⟩ u1).setCell ⟨q,2,none⟩ u2).setCell ⟨q,3,none⟩ u3).setCell ⟨q,4,none⟩ u4).setCell ⟨q,5,none⟩ u5):=
 (((((h.setCell (p:=⟨q,0,none⟩) hq u0).setCell (p:=⟨q,1,none⟩) hq u1).setCell (p:=⟨q,2,none⟩) hq u2).setCell (p:=⟨q,3,none⟩) hq u3).setCell (p:=⟨q,4,none⟩) hq u4).setCell (p:=⟨q,5,none⟩) hq u5
theorem OutP.yes{base cb:Nat}{c:Cr}{l:List Rid}{f T:Int}{tv:Value}{trips:List Tr}{w w':l6}{e:Ending}(h:OutP base cb c l f T tv trips w e w')(hx:∃ r∈l,r.to_=f):∃(j:Nat)(r:Rid)(t:Tr)(A':iX)(n' k':Nat),e=.returned (.bool true)/\l[j]?=some r/\r.to_=f/\trips[r.id.toNat]?=some t/\Own w' w.heap.size 401 2 jS (.slice A' n' k') (l.take j++l.drop (j+1))/\Bx w' cb (c.lv (.slice A' n' k'))/\
  Own w' base 87 7 kN tv (trips.set r.id.toNat {t with al:=T})/\But (fun q=>q=cb\/tv.ownBlock=some q) w w':=by
 rcases h with⟨-,h,-⟩|h
 ·obtain⟨r,hr,e⟩:=hx;exact absurd e (h r hr)
 ·exact h
theorem OutP.no{base cb:Nat}{c:Cr}{l:List Rid}{f T:Int}{tv:Value}{trips:List Tr}{w w':l6}{e:Ending}(h:OutP base cb c l f T tv trips w e w')(hx:∀ r∈l,r.to_≠f):e=.returned (.bool false)/\Below w.heap.size w w':=by
 rcases h with⟨h1,-,h2⟩|⟨j,r,t,A',n',k',-,h1,h2,-⟩
 ·exact⟨h1,h2⟩
 ·exact absurd h2 (hx r (jx h1))
theorem InP.no{base cb:Nat}{s:Sc}{c:Cr}{l:List Rid}{I f T:Int}{tv:Value}{trips:List Tr}{h:Nat}{S:HS}{w w':l6}{e:Ending}(H:InP base cb s c l I f T tv trips h S w e w')(hx:c.dir=0\/s.cap<=(l.length:Int)\/S.L (zL s I f c.dir)=[]):e=.returned (.tuple #[.bool false,.bool false])/\Below w.heap.size w w':=by
 rcases H with⟨h1,-,h2⟩|⟨x,tl,t,A',n',k',S',gone,-,h1,h2,h3,-⟩
 ·exact⟨h1,h2⟩
 ·rcases hx with hx|hx|hx
  ·exact absurd hx h1
  ·omega
  ·rw[h3]at hx;cases hx
theorem InP.yes{base cb:Nat}{s:Sc}{c:Cr}{l:List Rid}{I f T:Int}{tv:Value}{trips:List Tr}{h:Nat}{S:HS}{w w':l6}{e:Ending}(H:InP base cb s c l I f T tv trips h S w e w')(hx:¬ (c.dir=0\/s.cap<=(l.length:Int)\/S.L (zL s I f c.dir)=[])):
  ∃(x:Wt)(tl:List Wt)(t:Tr)(A':iX)(n' k':Nat)(S':HS)(gone:Bool),e=.returned (.tuple #[.bool true,.bool gone])/\c.dir≠0/\(l.length:Int)<s.cap/\S.L (zL s I f c.dir)=x::tl/\trips[x.id.toNat]?=some t/\
  Own w' w.heap.size 401 2 jS (.slice A' n' k') (l++[⟨x.id,x.to_⟩])/\Bx w' cb (c.lv (.slice A' n' k'))/\Own w' base 87 7 kN tv (trips.set x.id.toNat {t with car:=I,bo:=T})/\
  HallTo w h S w' S' (qf S.L (zL s I f c.dir) tl)/\InFc s f c.dir tl S S' gone/\But (fun q=>q=cb\/tv.ownBlock=some q\/Xh S h q) w w'/\∀ p,(Value.slice A' n' k').ownBlock=some p->¬ Xh S' h p:=by
 rcases H with⟨-,h1,-⟩|H
 ·exact absurd h1 hx
 ·exact H
theorem ServS.mk0{base b3:Nat}{A:iX}{tv:Value}{h:Nat}{S:HS}{trips':List Tr}{L':HK->List Wt}{l':List Rid}{A':iX}{n' k':Nat}{S':HS}{w w':l6}(hO:Own w' b3 401 2 jS (.slice A' n' k') l')(hb:w.heap.size<=b3)(hx:∀ p,(Value.slice A' n' k').ownBlock=some p->¬ Xh S' h p)(ht:Own w' base 87 7 kN tv trips')(hh:HallTo w h S w' S' L')(but:But (fun q=>tv.ownBlock=some q\/Xh S h q) w w'):ServS base A tv h S trips' L' l' A' n' k' S' w w':=by
 obtain⟨A2,c2,hv,h0,h1⟩:=hO.shape;simp only[We]at hv;obtain⟨rfl,rfl,rfl⟩:=hv;exact⟨⟨h1,rfl⟩,h0,fun b off e=>⟨.inl (vD hb (hO.row.lt b (by rw[e];rfl)).1),hx b (by rw[e];rfl),(hO.row.lt b (by rw[e];rfl)).2⟩,ht,hh,but⟩
theorem ServS.drew{base:Nat}{A:iX}{tv:Value}{h:Nat}{S:HS}{trips':List Tr}{L':HK->List Wt}{l':List Rid}{A':iX}{n' k':Nat}{S':HS}{w w':l6}(H:ServS base A tv h S trips' L' l' A' n' k' S' w w'):ServS base A tv h S trips' L' l' A' n' k' S' w w'.drew:=
 ⟨H.r,H.k,H.rb,H.t.drew,⟨H.hh.hl.below fh.drew,H.hh.x,H.hh.L,H.hh.nw,H.hh.nc⟩,H.but.then_ fh.drew⟩
theorem qj{Q:l6->Prop}{w W:l6}(S:l6->Prop)(hS:S W)(hb:Below w.heap.size w W)(h:∀ W':l6,S W'->Below w.heap.size w W'->Q W'):Q W:=h W hS hb
theorem ServS.from_{base:Nat}{A:iX}{tv:Value}{h:Nat}{S:HS}{trips':List Tr}{L':HK->List Wt}{l':List Rid}{A':iX}{n' k':Nat}{S':HS}{w V w':l6}(hb:Below w.heap.size w V)(H:ServS base A tv h S trips' L' l' A' n' k' S' V w'):ServS base A tv h S trips' L' l' A' n' k' S' w w':=
 ⟨H.r,H.k,fun b off e=>⟨(H.rb b off e).1.imp (vD hb.size) id,(H.rb b off e).2⟩,H.t,⟨H.hh.hl,fun k hk hx=>H.hh.x k (kK hk hb.size) hx,H.hh.L,H.hh.nw,H.hh.nc⟩,(But.of_below hb).trans H.but (fun _ _ h=>h)⟩
theorem kx{Q:l6->Prop}{W:l6}(S:l6->Prop)(hS:S W)(h:∀ W':l6,S W'->Q W'):Q W:=h W hS
theorem KP{base:Nat}{s:Sc}{sA:iX}{sn sk wb h:Nat}{w V w1:l6}{S S':HS}{tv:Value}{L:List Ca}{trips trips':List Tr}{T:Int}{g n ck i:Nat}{x:Ca}{c':Cr}{l':List Rid}{L':HK->List Wt}{A':iX}{n' k':Nat}
  (H:Wd base s sA sn sk wb h w S (.slice (some ⟨g,0,none⟩) n ck) tv L trips T)(hn:L.length=n)(hi:L[i]?=some x)(hb:Below w.heap.size w V)(HS:ServS base x.A tv h S trips' L' l' A' n' k' S' V w1):
  WdN base s sA sn sk wb h w S (.slice (some ⟨g,0,none⟩) n ck) tv L (Xt w1 g (i*6) ⟨c',A',n',k',l'⟩) S' (.slice (some ⟨g,0,none⟩) n ck) tv (L.set i ⟨c',A',n',k',l'⟩) trips' T:=by
 have hz:=hb.size;have hg:(Value.slice (some ⟨g,0,none⟩) n ck).ownBlock=some g:=rfl;have h7:=H.s2 g hg;have hc:=(H.cr.lt hg).2;have hX:∀ k,k<w.heap.size->Xh S' h k->Xh S h k:=fun k hk hx=>HS.hh.x k (by omega) hx
 have hwl:=H.bx.lt (by simp);have h0:But (fun q=>tv.ownBlock=some q\/Xh S h q) w w1:=(But.of_below hb).trans HS.but (fun _ _ h=>h);have ho:=HS.but.size;have ha:=H.cr.but h0 (fun p hp hx=>by
  have:=H.s2 p hp;exact hx.elim this.2.2 this.2.1)
 have h6:=Own.car6 (y:=⟨c',A',n',k',l'⟩) ha hn hi;have h5:But (fun q=>tv.ownBlock=some q\/Xh S h q\/q=g) w (Xt w1 g (i*6) ⟨c',A',n',k',l'⟩):=(h0.mono (Y:=fun q=>tv.ownBlock=some q\/Xh S h q\/q=g) (fun _ _ h=>h.elim .inl (fun h=>.inr (.inl h)))).trans h6.2 (fun _ _ e=>.inr (.inr e));have hd:¬ Xh S' h g:=fun hx=>h7.2.1 (hX g hc hx)
 have h8:∀ k,RBk (L.set i ⟨c',A',n',k',l'⟩) k->RBk L k\/(V.heap.size<=k/\¬ Xh S' h k/\k<w1.heap.size):=fun k hk=>by
  rcases hk.set with h1|⟨off,e⟩
  ·exact .inl h1
  ·obtain⟨h2,h3,h4⟩:=HS.rb k off e;rcases h2 with h2|⟨o,h2⟩
   ·exact .inr ⟨h2,h3,h4⟩
   ·exact .inl ⟨x,jx hi,o,h2⟩
 have hf:w1.heap.size<=(Xt w1 g (i*6) ⟨c',A',n',k',l'⟩).heap.size:=h6.2.size;refine⟨⟨H.bx.but h5 hwl ?_,H.wl,HS.hh.hl.but h6.2 (fun k hk e=>hd (e▸hk)),?_,h6.1,?_,HS.t.but h6.2 (fun p hp e=>h7.2.2 (e▸hp)),?_,?_,?_,?_⟩,?_,?_,?_⟩
 ·intro hx;rcases hx with hx|hx|hx
  ·exact(H.s3 wb hx).1 rfl
  ·exact H.s1 hx
  ·exact h7.1 hx.symm
 ·intro k hk;rcases YF k w.heap.size with h1|h1
  ·exact H.hb k (hX k h1 hk)
  ·have:=H.wl;omega
 ·intro z he;obtain⟨j,hj⟩:=Z5 he;rcases zx hj with⟨-,rfl,-⟩|⟨-,hj⟩
  ·exact⟨HB.Rds.but HS.r h6.2 (fun b off e h9=>by
    obtain⟨h2,h3,h4⟩:=HS.rb b off e;rcases h2 with h2|⟨o,h2⟩
    ·omega
    ·exact(H.s4 b ⟨x,jx hi,o,h2⟩).2.2 (.inr (.inr (.inl (by rw[h9];rfl))))),HS.k⟩
  ·have hm:=jx hj;exact⟨HB.Rds.but (H.ri z hm).1 h5 (fun b off e hx=>(H.s4 b ⟨z,hm,off,e⟩).2.2 (by
    rcases hx with hx|hx|hx
    ·exact .inr (.inr (.inr hx))
    ·exact .inr (.inl hx)
    ·exact .inr (.inr (.inl (by rw[hx];rfl))))),(H.ri z hm).2⟩
 ·exact fun hx=>H.s1 (hX _ hwl hx)
 ·intro p hp;have h1:=H.s2 p hp;exact⟨h1.1,fun hx=>h1.2.1 (hX p (H.cr.lt hp).2 hx),h1.2.2⟩
 ·intro p hp;have h1:=H.s3 p hp;exact⟨h1.1,fun hx=>h1.2 (hX p (H.tr.lt hp).2 hx)⟩
 ·intro k hk;rcases h8 k hk with h1|⟨h1,h2,h3⟩
  ·have h4:=H.s4 k h1;refine⟨h4.1,by omega,fun hx=>h4.2.2 ?_⟩;rcases hx with hx|hx|hx|hx
   ·exact .inl hx
   ·exact .inr (.inl (hX k h4.2.1 hx))
   ·exact .inr (.inr (.inl hx))
   ·exact .inr (.inr (.inr hx))
  ·refine⟨by have:=H.wl;omega,by omega,fun hx=>?_⟩;rcases hx with hx|hx|hx|hx
   ·omega
   ·exact h2 hx
   ·have:=(H.cr.lt hx).2;omega
   ·have:=(H.tr.lt hx).2;omega
 ·exact h5.mono (fun q _ hx=>by
   rcases hx with hx|hx|hx
   ·exact .inr (.inr (.inr hx))
   ·exact .inr (.inl hx)
   ·exact .inr (.inr (.inl (by rw[hx];rfl))))
 ·intro k hk hx;rcases hx with hx|hx|hx|hx
  ·exact .inl hx
  ·exact .inr (.inl (hX k hk hx))
  ·exact .inr (.inr (.inl hx))
  ·exact .inr (.inr (.inr hx))
 ·intro k hk hr;rcases h8 k hr with h1|⟨h1,h2,h3⟩
  ·exact h1
  ·omega
def CarR(s:Sc)(I T:Int)(c:Cr)(l:List Rid)(trips:List Tr)(L:HK->List Wt)(c':Cr)(l':List Rid)(trips':List Tr)(L':HK->List Wt):Prop:=
 ((c.mode=0\/c.mode=1)/\MStep s.gap s.opn c c'/\l'=l/\trips'=trips/\L'=L)\/
 (c.mode=4/\c'=(if c.left=1 then{c with left:=0,mode:=0}else{c with left:=c.left-1})/\l'=l/\trips'=trips/\L'=L)\/
 ((c.mode=2\/c.mode=3)/\c.left≠1/\c'={c with left:=c.left-1}/\l'=l/\trips'=trips/\L'=L)\/
 ((c.mode=2\/c.mode=3)/\c.left=1/\∃ D,-1<=D/\D<=1/\SvRel s I (c.pos/s.gap) T D {c with left:=0} l trips L c' l' trips' L')
def fC(s:Sc)(i:Nat)(l:List Rid)(S:HS):Vw:=yy s.cap l (Ld S.fc S.fw (i:Int))
structure CarF(s:Sc)(i:Nat)(c c':Cr)(l:List Rid)(S S':HS)(gone:Bool):Prop where
 ne:S.ne->S'.ne
 mv:c.mode=0\/c.mode=1->MoveX s (fC s i l S) c c'
 sv:c.mode=2\/c.mode=3->c.left=1->c'.dir=(fC s i l S).of (c.pos/s.gap) c.dir/\SvX s i (c.pos/s.gap) c'.dir S S' gone
 no:¬ ((c.mode=2\/c.mode=3)/\c.left=1)->S'=S/\gone=false
def Uw(base:Nat)(s:Sc)(sA:iX)(sn sk wb h:Nat)(w:l6)(S:HS)(cv tv:Value)(L:List Ca)(trips:List Tr)(T:Int)(i:Nat)(x:Ca)(e:Ending)(w':l6):Prop:=
 ∃(gone:Bool)(y:Ca)(S':HS)(trips':List Tr),e=.returned (.bool gone)/\WdN base s sA sn sk wb h w S cv tv L w' S' cv tv (L.set i y) trips' T/\S'.nw<=S.nw+1/\S'.nc<=S.nc+1/\CarF s i x.c y.c x.l S S' gone/\CarR s i T x.c x.l trips S.L y.c y.l trips' S'.L
theorem ky{base:Nat}{s:Sc}{sA:iX}{sn sk wb h:Nat}{w V:l6}{S:HS}{tv:Value}{L:List Ca}{trips:List Tr}{T:Int}{g n ck i:Nat}{x:Ca}{c':Cr}
  (H:Wd base s sA sn sk wb h w S (.slice (some ⟨g,0,none⟩) n ck) tv L trips T)(hn:L.length=n)(hi:L[i]?=some x)(hb:Below w.heap.size w V):
  WdN base s sA sn sk wb h w S (.slice (some ⟨g,0,none⟩) n ck) tv L (Xt V g (i*6) {x with c:=c'}) S (.slice (some ⟨g,0,none⟩) n ck) tv (L.set i {x with c:=c'}) trips T:=by
 have hx:=jx hi;have h1:=H.ri x hx;have HS:ServS base x.A tv h S trips S.L x.l x.A x.n x.k S V V:=⟨⟨(h1.1.1.below hb).mono hb.size,h1.1.2⟩,h1.2,fun b off e=>by
  have h2:=H.s4 b ⟨x,hx,off,e⟩;exact⟨.inr ⟨off,e⟩,fun h=>h2.2.2 (.inr (.inl h)),kK h2.2.1 hb.size⟩,H.tr.below hb,⟨H.hl.below hb,fun _ _ h=>h,rfl,by omega,by omega⟩,But.refl _ _⟩
 exact KP (c':=c') H hn hi hb HS
end
end Go.Proofs.YtdeogmbfgkepeaaGreatDoor
