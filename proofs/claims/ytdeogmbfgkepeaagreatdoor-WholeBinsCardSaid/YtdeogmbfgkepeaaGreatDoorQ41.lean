/- Contracts that WholeBins needs. Each tells its conditions. -/
import Derived.Test.YtdeogmbfgkepeaaGreatDoorQ20
import Derived.Test.YtdeogmbfgkepeaaGreatDoorQ22
import Derived.Test.YtdeogmbfgkepeaaGreatDoorQ31
set_option linter.unusedVariables false
set_option linter.unusedSimpArgs false
set_option maxRecDepth 100000
set_option maxHeartbeats 64000000
namespace Go.Proofs.YtdeogmbfgkepeaaGreatDoor
open Go.Proofs.Tryz
open Go.Value renaming int->O
open Go.IntKind renaming i64->J
section
open Go.RowKit HB Go.Maps CalP
theorem HB.Bx.o17{w:World}{q:Nat}{v0 v1 v2 v3 v4 v5 v6 v7 v8 v9 v10 v11 v12 v13 v14 v15 v16:Value}(h:Bx w q [v0,v1,v2,v3,v4,v5,v6,v7,v8,v9,v10,v11,v12,v13,v14,v15,v16]):(w.cell? ⟨q,0,none⟩=some v0/\w.cell? ⟨q,1,none⟩=some v1/\w.cell? ⟨q,2,none⟩=some v2/\w.cell? ⟨q,3,none⟩=some v3/\w.cell? ⟨q,4,none⟩=some v4/\w.cell? ⟨q,5,none⟩=some v5/\w.cell? ⟨q,6,none⟩=some v6/\w.cell? ⟨q,7,none⟩=some v7/\w.cell? ⟨q,8,none⟩=some v8/\w.cell? ⟨q,9,none⟩=some v9/\w.cell? ⟨q,10,none⟩=some v10/\w.cell? ⟨q,11,none⟩=some v11/\w.cell? ⟨q,12,none⟩=some v12/\w.cell? ⟨q,13,none⟩=some v13/\w.cell? ⟨q,14,none⟩=some v14/\w.cell? ⟨q,15,none⟩=some v15/\w.cell? ⟨q,16,none⟩=some v16)/\(w.frozen? ⟨q,0,none⟩=false/\w.frozen? ⟨q,1,none⟩=false/\w.frozen? ⟨q,2,none⟩=false/\w.frozen? ⟨q,3,none⟩=false/\w.frozen? ⟨q,4,none⟩=false/\w.frozen? ⟨q,5,none⟩=false/\w.frozen? ⟨q,6,none⟩=false/\w.frozen? ⟨q,7,none⟩=false/\w.frozen? ⟨q,8,none⟩=false/\w.frozen? ⟨q,9,none⟩=false/\w.frozen? ⟨q,10,none⟩=false/\w.frozen? ⟨q,11,none⟩=false/\w.frozen? ⟨q,12,none⟩=false/\w.frozen? ⟨q,13,none⟩=false/\w.frozen? ⟨q,14,none⟩=false/\w.frozen? ⟨q,15,none⟩=false/\w.frozen? ⟨q,16,none⟩=false):=
 ⟨⟨(h 0 _ rfl).1,(h 1 _ rfl).1,(h 2 _ rfl).1,(h 3 _ rfl).1,(h 4 _ rfl).1,(h 5 _ rfl).1,(h 6 _ rfl).1,(h 7 _ rfl).1,(h 8 _ rfl).1,(h 9 _ rfl).1,(h 10 _ rfl).1,(h 11 _ rfl).1,(h 12 _ rfl).1,(h 13 _ rfl).1,(h 14 _ rfl).1,(h 15 _ rfl).1,(h 16 _ rfl).1⟩,⟨(h 0 _ rfl).2,(h 1 _ rfl).2,(h 2 _ rfl).2,(h 3 _ rfl).2,(h 4 _ rfl).2,(h 5 _ rfl).2,(h 6 _ rfl).2,(h 7 _ rfl).2,(h 8 _ rfl).2,(h 9 _ rfl).2,(h 10 _ rfl).2,(h 11 _ rfl).2,(h 12 _ rfl).2,(h 13 _ rfl).2,(h 14 _ rfl).2,(h 15 _ rfl).2,(h 16 _ rfl).2⟩⟩
abbrev Cr.lv(c:Cr)(v:Value):List Value:=[O J c.pos,O J c.dir,O J c.mode,O J c.left,.bool c.wt,v]
abbrev ZD(s:Sc)(A:Option Addr)(n c:Nat)(h:Nat)(tv:Value)(I T:Int):List Value:=[O J s.fl,O J s.gap,O J s.cars,O J s.cap,O J s.opn,O J s.dw,O J s.cl,O J s.tr,.slice A n c,O J s.disp,O J s.hor,O J s.bins,O J s.width,.pointer (some ⟨h,0,none⟩),tv,O J I,O J T]
abbrev aj(s:Sc)(A:Option Addr)(n c:Nat)(h:Nat)(tv:Value)(I T:Int):Value:=.agg #[O J s.fl,O J s.gap,O J s.cars,O J s.cap,O J s.opn,O J s.dw,O J s.cl,O J s.tr,.slice A n c,O J s.disp,O J s.hor,O J s.bins,O J s.width,.pointer (some ⟨h,0,none⟩),tv,O J I,O J T]
theorem Rider.info:(prog.info? 401).map (fun i=>(i.zero,i.size,i.bytes))=some (some (.agg #[O J 0,O J 0]),2,16):=by kernel_rfl
theorem Z6(g:Rid):∀ u∈jS g,u.oneCell'=true:=by simp[jS,Value.oneCell']
theorem Z7(g:Rid):(jS g).length=2:=rfl
theorem qE(g:Tr):(kN g).length=7:=rfl
def zL(s:Sc)(I f d:Int):HK:=(f,d,if s.disp=4 then I else -1)
theorem Jq(s:Sc)(A:Option Addr)(n c:Nat)(h:Nat)(tA:Option Addr)(tn tc:Nat)(I T f d:Int)(w:World):
  Calls prog 259 #[aj s A n c h (.slice tA tn tc) I T,O J f,O J d] w (fk (.agg #[O J (zL s I f d).1,O J (zL s I f d).2.1,O J (zL s I f d).2.2]) w):=by
 have h21:w.heap.size<=w.heap.size+1:=by omega
 by_cases hd:s.disp=4
 ·have e1:(s.disp==4)=true:=by simpa using hd
  have hk:zL s I f d=(f,d,I):=by unfold zL;rw[if_pos hd]
  rw[hk];clear hk hd;go_enter func259,ntmps259;go_wp2_with fail;refine bodyPost_ret (v:=.agg #[O J f,O J d,O J I]) (by rw[zi rfl];go_simp) rfl ?_;exact⟨rfl,by go_grown⟩
 ·have e1:(s.disp==4)=false:=by simpa using hd
  have hk:zL s I f d=(f,d,-1):=by unfold zL;rw[if_neg hd]
  rw[hk];clear hk hd;go_enter func259,ntmps259;go_wp2_with fail;refine bodyPost_ret (v:=.agg #[O J f,O J d,O J (-1)]) (by rw[zi rfl];go_simp) rfl ?_;exact⟨rfl,by go_grown⟩
theorem Gw(b off x:Nat):(⟨b,off,none⟩:Addr).add x=⟨b,off+x,none⟩:=by
 unfold Addr.add;split
 ·rename_i h;rw[h];rfl
 ·rfl
theorem kV(L:List Rid):∀ u∈L.flatMap jS,u.oneCell'=true:=fun u hu=>by
 obtain⟨x,-,hx⟩:=List.mem_flatMap.1 hu;exact Z6 x u hx
theorem HB.Own.slice{α:Type}{w:World}{base:Nat}{e:TypeId}{sz:Nat}{f:α->List Value}{v:Value}{l:List α}(h:Own w base e sz f v l):∃ A n k,v=.slice A n k/\n=l.length/\n<=k:=by
 obtain⟨A,k,h1,h2,-⟩:=h.shape;exact⟨A,_,k,h1,rfl,h2⟩
def OutP(base cb:Nat)(c:Cr)(l:List Rid)(f T:Int)(tv:Value)(trips:List Tr)(w:World)(e:Ending)(w':World):Prop:=
 (e=.returned (.bool false)/\(∀r∈l,r.to_≠f)/\Below w.heap.size w w')\/
 ∃(j:Nat)(r:Rid)(t:Tr)(A':Option Addr)(n' k':Nat),e=.returned (.bool true)/\l[j]?=some r/\r.to_=f/\trips[r.id.toNat]?=some t/\Own w' w.heap.size 401 2 jS (.slice A' n' k') (l.take j++l.drop (j+1))/\Bx w' cb (c.lv (.slice A' n' k'))/\
  Own w' base 87 7 kN tv (trips.set r.id.toNat {t with al:=T})/\But (fun q=>q=cb\/tv.ownBlock=some q) w w'
theorem Jr(s:Sc)(sA:Option Addr)(sn sk:Nat)(h:Nat)(tA:Option Addr)(tn tc:Nat)(I T f:Int)(base cb:Nat)(c:Cr)(A:Option Addr)(n k B:Nat)(l:List Rid)(trips:List Tr)(w:World)
  (hbx:Bx w cb (c.lv (.slice A n k)))(hr:Rds w B A n l)(hB:B<=w.heap.size)(hn:n<=1000)(hnk:n<=k)(ht:Own w base 87 7 kN (.slice tA tn tc) trips)(hne:∀ q,(Value.slice tA tn tc).ownBlock=some q->q≠cb)
  (hid:∀ r∈l,0<=r.id/\r.id<trips.length)(htl:trips.length<=10000000):
  Calls prog 232 #[aj s sA sn sk h (.slice tA tn tc) I T,.pointer (some ⟨cb,0,none⟩),O J f] w (OutP base cb c l f T (.slice tA tn tc) trips w):=by
 have HBX:=ze hbx;have HR:=ze hr;have HT:=ze ht;have hcb:=hbx.lt (by simp);have HID:=ze hid;have HNE:=ze hne;obtain⟨⟨c0,c1,c2,c3,c4,c5⟩,-⟩:=hbx.o6;clear hbx hr ht hid hne;go_enter func232,ntmps232;go_wp2_with fail;have HB:=ze ((Below.refl w.heap.size w).alloc fi (.cells (ZD s sA sn sk h (.slice tA tn tc) I T).toArray 328));have HX:=ze (Bx.new w (ZD s sA sn sk h (.slice tA tn tc) I T) 328);clear c0 c1 c2 c3 c4 c5;obtain⟨hl,hrd⟩:=(show l.length=n/\Rd w B 2 A n (l.flatMap jS)from⟨HR.o.2,HR.o.1⟩);have HL:=ze hl;have HRD:=ze hrd;clear hl hrd;generalize hW:w.alloc (.cells (ZD s sA sn sk h (.slice tA tn tc) I T).toArray 328)=W at*;have hzW:w.heap.size<W.heap.size:=by rw[<-hW];simp
 clear hW
 go_loopw [15] (fun i wr=>∃ j:Nat,j<=n/\i=O J j/\Below W.heap.size W wr/\∀ q r,q<j->l[q]?=some r->r.to_≠f) (fun i _=>n-(intOf i).toNat)
 case atStart=>exact⟨0,Nat.zero_le _,rfl,fh,fun q r hq=>by omega⟩
 case round=>
  obtain⟨j,hj,rfl,hbw,hall⟩:=hrel;have HALL:=ze hall;have HBW:=ze hbw;clear hall;have HBw:=ze (HB.o.trans (hbw.mono (by omega)));by_cases hlt:j<n
  ·obtain⟨b,off,r,hA,hbB,hr,r0,r1⟩:=(HR.o.below (HBw.o.mono hB)).at_ hlt;subst hA;have hid:=HID.o r (List.mem_of_getElem? hr);obtain⟨id,tt⟩:=r;simp only at hid r0 r1;obtain⟨m,rfl⟩:=Int.eq_ofNat_of_zero_le hid.1;have HRR:=ze hr;have i0:(0:Int)<=(j:Int):=by omega
   have i1:(j:Int)<(n:Int):=by omega
   have hbz:=hbw.size;have hb1:b<wr.heap.size:=by omega
   have hm:m<trips.length:=by omega
   have HM:=ze hm;clear hr hbw hm hid;by_cases hto:tt=f
   ·subst hto;obtain⟨t,ht⟩:∃ t,trips[m]?=some t:=⟨_,List.getElem?_eq_getElem HM.o⟩;have HTT:=ze ht;obtain⟨tg,tcap,htv,htb,htl',-,htc,htf⟩:=HT.o.at_ (by have:=HM.o;omega);simp only[Value.slice.injEq]at htv;obtain⟨rfl,rfl,rfl⟩:=htv;have hcg:=HNE.o tg rfl;clear ht htc htf;go_upto_region 5 with(fail);have hq0:=ze (show Below wr.heap.size wr (wr.alloc (.cells #[O J (m:Int),O J tt] 401))from fh.alloc fi _);have HQ:=ze (Bx.new wr [O J (m:Int),O J tt] 401);refine zq (w:=wr) (fun V=>Bx V wr.heap.size [O J (m:Int),O J tt]/\wr.heap.size<V.heap.size) ⟨HQ.o,by simp⟩ hq0.o ?_;clear hq0 HQ;rintro V ⟨hqx,hqz⟩ hbV;generalize wr.heap.size=q at*;have HBV:=ze (HBw.o.trans (hbV.mono (by omega)));have HBVW:=ze (HBW.o.trans (hbV.mono (by omega)));have HQ:=ze hqx;clear hqx hbV HBw HBW r0 r1;have HXV:=ze (HX.o.below HBVW.o hzW);have HCV:=ze (HBX.o.below HBV.o hcb);have HFR:=ze ((HRD.o.below (HBV.o.mono hB)).front (k:=j) (by omega));have HCU:=ze ((HRD.o.below (HBV.o.mono hB)).cut (k:=j+1) (cap:=k) (by omega) hnk);have hzV:=HBVW.o.size;have hVz:w.heap.size<=V.heap.size:=by omega
    obtain⟨⟨c0,c1,c2,c3,c4,c5⟩,f0,f1,f2,f3,f4,f5⟩:=HCV.o.o6;have HL1:=ze (show(l.take j).length=j by rw[List.length_take,HL.o];omega);have HL2:=ze (show(l.drop (j+1)).length=n-(j+1) by rw[List.length_drop,HL.o]);have HF1:=ze (show Rd V B 2 (some ⟨b,off,none⟩) j ((l.take j).flatMap jS)from(xE Z7 l j)▸HFR.o);have hne1:¬ w.heap.size=cb:=by omega
    have hne2:¬ q=cb:=by omega
    have hne3:¬ tg=cb:=hcg;have hne4:¬ cb=tg:=fun e=>hcg e.symm
    have hne5:¬ cb=w.heap.size:=by omega
    have hne6:¬ cb=q:=by omega
    have hzq:q<V.heap.size:=hqz;have hzs:w.heap.size<V.heap.size:=by omega
    have htV:tg<V.heap.size:=by omega
    have hcV:cb<V.heap.size:=by omega
    have HTV:=ze (HT.o.below HBV.o);have m0:(0:Int)<=(m:Int):=by omega
    have s0:(0:Int)<=(j:Int)+1:=by omega
    have s1:(j:Int)+1<=(n:Int):=by omega
    have HBB:=ze (show base<=tg/\tg<w.heap.size from⟨htb,htl'⟩);have m1:(m:Int)<(trips.length:Int):=by have:=HM.o;omega
    have HLN:=ze (show(l.take j).length<=1000000000 by rw[HL1.o];omega);have hbB':B<=V.heap.size:=by omega
    clear HFR HT HBX HX HR HRD i0 i1 hlt hzW hzV hbz hqz HALL;by_cases hk:k=j+1
    ·have HF2:=ze (show Rd V B 2 (some ⟨b,off,none⟩) (n-(j+1)) ((l.drop (j+1)).flatMap jS)from by
      have h1:=HCU.o;rw[if_pos hk]at h1;exact(qm Z7 l (j+1))▸h1)
     clear HCU;go_wp2_with(first
      |(at_builtin;refine qe rfl _ _ 263 rfl underlying263 Rider.info rfl (by omega) (by omega) rfl (Own.nil V V.heap.size 401 2 jS) (l.take j) B _ j _ rfl HL1.o HF1.o (kV _) (by simp) (by omega) fi ?_;intro v1 w1 hown1 hb1;have HO1:=ze (show Own w1 V.heap.size 401 2 jS v1 (l.take j)from hown1);have HB1:=ze hb1;have d5:=(hb1.cell (p:=⟨cb,5,none⟩) hcV).trans c5;clear hown1 hb1 c0 c1 c2 c3 c4 c5 f0 f1 f2 f3 f4 f5)
      |(at_builtin;refine qe rfl _ _ 263 rfl underlying263 Rider.info rfl (by omega) (by omega) rfl HO1.o (l.drop (j+1)) B _ (n-(j+1)) _ rfl HL2.o (HF2.o.below (HB1.o.mono hbB')) (kV _) HLN.o (by omega) HB1.o.size ?_;intro v2 w2 hown2 hb2;obtain⟨A',n',k',rfl,hn',hnk'⟩:=Own.slice hown2;have HO2:=ze hown2;have HN':=ze hn';have HB2:=ze (HB1.o.trans hb2);clear hown2 hb2 hn' d5;obtain⟨⟨-,-,-,-,-,d5⟩,-,-,-,-,-,g5⟩:=(HCV.o.below HB2.o hcV).o6;obtain⟨⟨-,-,-,-,-,-,-,-,-,-,-,-,-,-,d14,-,d16⟩,-⟩:=(HXV.o.below HB2.o hzs).o17;obtain⟨⟨q0,-⟩,-⟩:=(HQ.o.below HB2.o hzq).o2;have HT2:=ze (HTV.o.below HB2.o);obtain⟨z6,y6⟩:=HT2.o.elem_cell qE rfl HTT.o (show 6<7 by omega) rfl))
     go_ret;refine .inr ⟨j,⟨m,tt⟩,t,A',n',k',rfl,HRR.o,rfl,HTT.o,?_⟩;have hb5:But (fun p=>p=cb\/p=tg) w2 ((w2.setCell ⟨cb,5,none⟩ (.slice A' n' k')).setCell ⟨tg,m*7+6,none⟩ (O J T)):=((But.refl (fun p=>p=cb\/p=tg) w2).at1 (.inl rfl) _ _).at1 (.inr rfl) _ _;have hO:=(HO2.o.but hb5 (fun p hp hx=>by have:=(HO2.o.row.lt p hp).1;omega)).small hVz;have hX:=((HCV.o.below HB2.o hcV).set 5 (.slice A' n' k')).setOther (a:=⟨tg,m*7+6,none⟩) hcg (O J T);have hT5:Own (w2.setCell ⟨cb,5,none⟩ (.slice A' n' k')) base 87 7 kN (.slice (some ⟨tg,0,none⟩) trips.length tc) trips:=HT2.o.but ((But.refl (fun p=>p=cb) w2).at1 rfl _ _) (fun p hp e=>by have:=HNE.o p hp;omega);have hT6:=(hT5.storeF qE rfl HTT.o (x':={t with al:=T}) (j:=6) (u:=O J T) rfl (by omega)).1;have hbf:=((But.of_below (X:=fun p=>p=cb\/p=tg) (HBV.o.trans (HB2.o.mono hVz))).trans hb5 (fun _ _ h=>h));exact⟨hO,hX,hT6,hbf.mono (fun p _ hx=>hx.imp id (fun e=>by rw[e];rfl))⟩
    ·have HF2:=ze (show Rd V B 2 (some ⟨b,off+(j+1)*2,none⟩) (n-(j+1)) ((l.drop (j+1)).flatMap jS)from by
      have h1:=HCU.o;rw[if_neg hk]at h1;have h2:Rd V B 2 (some ((⟨b,off,none⟩:Addr).add ((j+1)*2))) (n-(j+1)) ((l.drop (j+1)).flatMap jS):=(qm Z7 l (j+1))▸h1;rw[Gw]at h2;exact h2)
     clear HCU;go_wp2_with(first
      |(at_builtin;refine qe rfl _ _ 263 rfl underlying263 Rider.info rfl (by omega) (by omega) rfl (Own.nil V V.heap.size 401 2 jS) (l.take j) B _ j _ rfl HL1.o HF1.o (kV _) (by simp) (by omega) fi ?_;intro v1 w1 hown1 hb1;have HO1:=ze (show Own w1 V.heap.size 401 2 jS v1 (l.take j)from hown1);have HB1:=ze hb1;have d5:=(hb1.cell (p:=⟨cb,5,none⟩) hcV).trans c5;clear hown1 hb1 c0 c1 c2 c3 c4 c5 f0 f1 f2 f3 f4 f5)
      |(at_builtin;refine qe rfl _ _ 263 rfl underlying263 Rider.info rfl (by omega) (by omega) rfl HO1.o (l.drop (j+1)) B _ (n-(j+1)) _ rfl HL2.o (HF2.o.below (HB1.o.mono hbB')) (kV _) HLN.o (by omega) HB1.o.size ?_;intro v2 w2 hown2 hb2;obtain⟨A',n',k',rfl,hn',hnk'⟩:=Own.slice hown2;have HO2:=ze hown2;have HN':=ze hn';have HB2:=ze (HB1.o.trans hb2);clear hown2 hb2 hn' d5;obtain⟨⟨-,-,-,-,-,d5⟩,-,-,-,-,-,g5⟩:=(HCV.o.below HB2.o hcV).o6;obtain⟨⟨-,-,-,-,-,-,-,-,-,-,-,-,-,-,d14,-,d16⟩,-⟩:=(HXV.o.below HB2.o hzs).o17;obtain⟨⟨q0,-⟩,-⟩:=(HQ.o.below HB2.o hzq).o2;have HT2:=ze (HTV.o.below HB2.o);obtain⟨z6,y6⟩:=HT2.o.elem_cell qE rfl HTT.o (show 6<7 by omega) rfl))
     go_ret;refine .inr ⟨j,⟨m,tt⟩,t,A',n',k',rfl,HRR.o,rfl,HTT.o,?_⟩;have hb5:But (fun p=>p=cb\/p=tg) w2 ((w2.setCell ⟨cb,5,none⟩ (.slice A' n' k')).setCell ⟨tg,m*7+6,none⟩ (O J T)):=((But.refl (fun p=>p=cb\/p=tg) w2).at1 (.inl rfl) _ _).at1 (.inr rfl) _ _;have hO:=(HO2.o.but hb5 (fun p hp hx=>by have:=(HO2.o.row.lt p hp).1;omega)).small hVz;have hX:=((HCV.o.below HB2.o hcV).set 5 (.slice A' n' k')).setOther (a:=⟨tg,m*7+6,none⟩) hcg (O J T);have hT5:Own (w2.setCell ⟨cb,5,none⟩ (.slice A' n' k')) base 87 7 kN (.slice (some ⟨tg,0,none⟩) trips.length tc) trips:=HT2.o.but ((But.refl (fun p=>p=cb) w2).at1 rfl _ _) (fun p hp e=>by have:=HNE.o p hp;omega);have hT6:=(hT5.storeF qE rfl HTT.o (x':={t with al:=T}) (j:=6) (u:=O J T) rfl (by omega)).1;have hbf:=((But.of_below (X:=fun p=>p=cb\/p=tg) (HBV.o.trans (HB2.o.mono hVz))).trans hb5 (fun _ _ h=>h));exact⟨hO,hX,hT6,hbf.mono (fun p _ hx=>hx.imp id (fun e=>by rw[e];rfl))⟩
   ·have HNT:=ze (show∀q r,q<j+1->l[q]?=some r->r.to_≠f from fun q r hq hr=>by
     rcases Nat.lt_or_ge q j with h1|h1
     ·exact HALL.o q r h1 hr
     ·obtain rfl:q=j:=by omega
      rw[HRR.o]at hr;injection hr with hr;subst hr;exact hto)
    have e1:(tt==f)=false:=by simpa using hto
    clear hto;go_wp2_with fail;go_roundw
    case rel=>exact⟨j+1,by omega,by go_num,HBW.o.trans (by go_grown),HNT.o⟩
    case measure=>simp[intOf];omega
  ·obtain rfl:j=n:=by omega
   go_wp2_with fail;go_ret;exact .inl ⟨rfl,fun r hr=>by
    obtain⟨q,hq⟩:=List.getElem?_of_mem hr;exact HALL.o q r (by have:=(List.getElem?_eq_some_iff.1 hq).1;rw[HL.o]at this;exact this) hq,HBw.o⟩
structure HallTo(w:World)(h:Nat)(S:HS)(w':World)(S':HS)(L':HK->List Wt):Prop where
 hl:Hl w' h S'
 x:∀ k,k<w.heap.size->Xh S' h k->Xh S h k
 L:S'.L=L'
 nw:S'.nw<=S.nw+1
 nc:S'.nc<=S.nc+1
def InP(base cb:Nat)(s:Sc)(c:Cr)(l:List Rid)(I f T:Int)(tv:Value)(trips:List Tr)(h:Nat)(S:HS)(w:World)(e:Ending)(w':World):Prop:=
 (e=.returned (.tuple #[.bool false,.bool false])/\(c.dir=0\/s.cap<=(l.length:Int)\/S.L (zL s I f c.dir)=[])/\Below w.heap.size w w')\/
 ∃(x:Wt)(tl:List Wt)(t:Tr)(A':Option Addr)(n' k':Nat)(S':HS)(gone:Bool),e=.returned (.tuple #[.bool true,.bool gone])/\c.dir≠0/\(l.length:Int)<s.cap/\S.L (zL s I f c.dir)=x::tl/\trips[x.id.toNat]?=some t/\
  Own w' w.heap.size 401 2 jS (.slice A' n' k') (l++[⟨x.id,x.to_⟩])/\Bx w' cb (c.lv (.slice A' n' k'))/\Own w' base 87 7 kN tv (trips.set x.id.toNat {t with car:=I,bo:=T})/\
  HallTo w h S w' S' (qf S.L (zL s I f c.dir) tl)/\But (fun q=>q=cb\/tv.ownBlock=some q\/Xh S h q) w w'/\∀ p,(Value.slice A' n' k').ownBlock=some p->¬ Xh S' h p
theorem TakeP.some_{w w':World}{h:Nat}{S:HS}{k:HK}{e:Ending}{x:Wt}{t:List Wt}(hl:S.L k=x::t)(hP:TakeP w h S k e w'):e=.returned (.tuple #[x.v,.bool true])/\∃ nw c,HNext w h S w' (S.at_ S.mw nw k c t)/\nw<=S.nw+1:=by
 rcases hP with⟨x',t',hL,he,hx⟩|⟨hL,_⟩
 ·rw[hl]at hL;injection hL with h1 h2;subst h1;subst h2;exact⟨he,hx⟩
 ·rw[hl]at hL;cases hL
theorem TakeP.none_{w w':World}{h:Nat}{S:HS}{k:HK}{e:Ending}(hl:S.L k=[])(hP:TakeP w h S k e w'):e=.returned (.tuple #[Wt.v ⟨0,0,0,0⟩,.bool false])/\Below w.heap.size w w':=by
 rcases hP with⟨x',t',hL,he,hx⟩|⟨hL,h1,h2⟩
 ·rw[hl]at hL;cases hL
 ·exact⟨h1,h2⟩
theorem HB.Rd.but{X:Nat->Prop}{w w':World}{B sz n:Nat}{A:Option Addr}{xs:List Value}(h:Rd w B sz A n xs)(hb:But X w w')(hB:B<=w.heap.size)(hx:∀ b off,A=some ⟨b,off,none⟩->¬ X b):Rd w' B sz A n xs:=
 ⟨h.1,fun hn=>by
  obtain⟨b,off,e,hbB,hc⟩:=h.2 hn;exact⟨b,off,e,hbB,fun j u hu=>hb.cell (hc j u hu) (hx b off e)⟩⟩
theorem Yr(w:World)(g:Rid)(r:Nat)(hr:r=w.heap.size)(ty:TypeId):∀ j u,(jS g)[j]?=some u->(w.alloc (.cells #[O J g.id,O J g.to_] ty)).cell? ((⟨r,0,none⟩:Addr).add j)=some u:=fun j u hu=>by
 subst hr;have h:=(Bx.new w [O J g.id,O J g.to_] ty j u hu).1;rw[Gw,Nat.zero_add];exact h
theorem eU{V cur w6:World}(hb6:Below cur.heap.size cur w6)(h:Below V.heap.size V cur):Below V.heap.size V w6:=h.trans (hb6.mono h.size)
theorem HB.But.one{w w':World}{q o:Nat}{u:Value}(h:Below w.heap.size w w'):But (fun p=>p=q) w (w'.setCell ⟨q,o,none⟩ u):=(But.of_below h).at1 (X:=fun p=>p=q) rfl o u
theorem HB.But.two{w:World}{q o o':Nat}{u v:Value}:But (fun p=>p=q) w ((w.setCell ⟨q,o,none⟩ u).setCell ⟨q,o',none⟩ v):=((But.refl (fun p=>p=q) w).at1 rfl _ _).at1 rfl _ _
theorem HB.But.drew{X:Nat->Prop}{w w':World}(h:But X w w'):But X w w'.drew:=h.then_ fh.drew
theorem eV{V cur w6:World}(hb6:Below cur.heap.size cur w6)(h:Below V.heap.size V cur):V.heap.size<=cur.heap.size:=h.size
theorem eL{V cur w6:World}{row:Option Nat}(hg:cur.grownBy w6 row)(h:Below V.heap.size V cur)(hr:∀ k,row=some k->V.heap.size<=k):Below V.heap.size V w6:=h.grown hg h.size hr
structure InS(base cb:Nat)(c:Cr)(l:List Rid)(I T:Int)(tv:Value)(trips:List Tr)(h:Nat)(S:HS)(L':HK->List Wt)(x:Wt)(t:Tr)(w:World)(A':Option Addr)(n' k':Nat)(S':HS)(w':World):Prop where
 o:Own w' w.heap.size 401 2 jS (.slice A' n' k') (l++[⟨x.id,x.to_⟩])
 b:Bx w' cb (c.lv (.slice A' n' k'))
 t:Own w' base 87 7 kN tv (trips.set x.id.toNat {t with car:=I,bo:=T})
 hh:HallTo w h S w' S' L'
 but:But (fun q=>q=cb\/tv.ownBlock=some q\/Xh S h q) w w'
 ro:∀ p,(Value.slice A' n' k').ownBlock=some p->¬ Xh S' h p
theorem InS.below{base cb:Nat}{c:Cr}{l:List Rid}{I T:Int}{tv:Value}{trips:List Tr}{h:Nat}{S:HS}{L':HK->List Wt}{x:Wt}{t:Tr}{w:World}{A':Option Addr}{n' k':Nat}{S':HS}{w' w2:World}(H:InS base cb c l I T tv trips h S L' x t w A' n' k' S' w')(hb:Below w'.heap.size w' w2):InS base cb c l I T tv trips h S L' x t w A' n' k' S' w2:=
 ⟨H.o.below hb,H.b.below hb (H.b.lt (by simp)),H.t.below hb,⟨H.hh.hl.below hb,H.hh.x,H.hh.L,H.hh.nw,H.hh.nc⟩,H.but.then_ hb,H.ro⟩
theorem InS.calls{base cb:Nat}{c:Cr}{l:List Rid}{I T:Int}{tv:Value}{trips:List Tr}{h:Nat}{S:HS}{L':HK->List Wt}{x:Wt}{t:Tr}{w:World}{A':Option Addr}{n' k':Nat}{S':HS}{w' w2:World}(H:InS base cb c l I T tv trips h S L' x t w A' n' k' S' w')(hc:JN w' h S' w2)(h0:S'.nc<=S.nc)
  (hxc:¬ Xh S h cb)(hcb:cb<w.heap.size)(hxt:∀ q,tv.ownBlock=some q->¬ Xh S h q/\q<w.heap.size):∃ S2,InS base cb c l I T tv trips h S L' x t w A' n' k' S2 w2:=by
 obtain⟨mc,nc,fc,hn,hnc⟩:=hc;have key:∀ q,q<w.heap.size->Xh S' h q->Xh S h q:=H.hh.x;refine⟨_,H.o.but hn.but (fun p hp hx=>H.ro p hp hx),H.b.but hn.but (H.b.lt (by simp)) (fun hx=>hxc (key _ hcb hx)),H.t.but hn.but (fun p hp hx=>(hxt p hp).1 (key _ (hxt p hp).2 hx)),⟨hn.hl,fun k hk hx=>key k hk (hn.x k (Nat.lt_of_lt_of_le hk H.but.size) hx),H.hh.L,H.hh.nw,by show nc<=_;omega⟩,H.but.trans hn.but (fun i hi hx=>.inr (.inr (key i hi hx))),fun p hp hx=>H.ro p hp (hn.x p (H.o.row.lt p hp).2 hx)⟩
theorem Qq(s:Sc)(sA:Option Addr)(sn sk:Nat)(h:Nat)(tA:Option Addr)(tn tc:Nat)(I T f:Int)(base cb:Nat)(c:Cr)(A:Option Addr)(n k B:Nat)(l:List Rid)(trips:List Tr)(S:HS)(w:World)
  (hbx:Bx w cb (c.lv (.slice A n k)))(hr:Rds w B A n l)(hB:B<=w.heap.size)(hn:n<=1000)(hd:c.dir=0):
  Calls prog 233 #[aj s sA sn sk h (.slice tA tn tc) I T,.pointer (some ⟨cb,0,none⟩),O J f] w (InP base cb s c l I f T (.slice tA tn tc) trips h S w):=by
 have e1:(c.dir==0)=true:=by simpa using hd
 have HD:=ze hd;clear hd;have HBX:=ze hbx;have hcb:=hbx.lt (by simp);have HL:=ze hr.2;go_enter func233,ntmps233;go_upto_region 1 with(fail);refine zq (w:=w) (fun V=>Bx V w.heap.size (ZD s sA sn sk h (.slice tA tn tc) I T)/\w.heap.size<V.heap.size) ⟨Bx.new w (ZD s sA sn sk h (.slice tA tn tc) I T) 328,by simp⟩ ((Below.refl w.heap.size w).alloc fi _) ?_;rintro V ⟨hx,hzV⟩ hbV;have HX:=ze hx;have HBV:=ze hbV;have HCV:=ze (HBX.o.below hbV hcb);have hcV:cb<V.heap.size:=by omega
 generalize hqs:w.heap.size=q at*;have HQS:=ze hqs;clear hx hbV HBX hqs;obtain⟨⟨c0,c1,c2,c3,c4,c5⟩,-⟩:=HCV.o.o6;clear c0 c2 c3 c4 c5;go_quiet(fail);go_wp2_with fail;go_ret2;exact .inl ⟨rfl,.inl HD.o,HQS.o▸zg HBV.o _⟩
theorem ZE(s:Sc)(sA:Option Addr)(sn sk:Nat)(h:Nat)(tA:Option Addr)(tn tc:Nat)(I T f:Int)(base cb:Nat)(c:Cr)(A:Option Addr)(n k B:Nat)(l:List Rid)(trips:List Tr)(S:HS)(w:World)
  (hbx:Bx w cb (c.lv (.slice A n k)))(hr:Rds w B A n l)(hB:B<=w.heap.size)(hn:n<=1000)(hd:c.dir≠0)(hf:s.cap<=(n:Int)):
  Calls prog 233 #[aj s sA sn sk h (.slice tA tn tc) I T,.pointer (some ⟨cb,0,none⟩),O J f] w (InP base cb s c l I f T (.slice tA tn tc) trips h S w):=by
 have e1:(c.dir==0)=false:=by simpa using hd
 have e2:decide (s.cap<=(n:Int))=true:=by simpa using hf
 have HF:=ze (show s.cap<=(l.length:Int) by rw[hr.2];exact hf);clear hd hf;have HBX:=ze hbx;have hcb:=hbx.lt (by simp);have HL:=ze hr.2;go_enter func233,ntmps233;go_upto_region 1 with(fail);refine zq (w:=w) (fun V=>Bx V w.heap.size (ZD s sA sn sk h (.slice tA tn tc) I T)/\w.heap.size<V.heap.size) ⟨Bx.new w (ZD s sA sn sk h (.slice tA tn tc) I T) 328,by simp⟩ ((Below.refl w.heap.size w).alloc fi _) ?_;rintro V ⟨hx,hzV⟩ hbV;have HX:=ze hx;have HBV:=ze hbV;have HCV:=ze (HBX.o.below hbV hcb);have hcV:cb<V.heap.size:=by omega
 generalize hqs:w.heap.size=q at*;have HQS:=ze hqs;clear hx hbV HBX hqs;have MK:=ze (fun W(hb:Below V.heap.size V W)=>(show c.K A n k W cb/\W.cell? ⟨q,3,none⟩=some (O J s.cap)/\Below V.heap.size V W from⟨(HCV.o.below hb hcV).k6 rfl,((HX.o.below hb hzV) 3 _ rfl).1,hb⟩))
 go_region_held3 (fun W=>c.K A n k W cb/\W.cell? ⟨q,3,none⟩=some (O J s.cap)/\Below V.heap.size V W)
  (((refine MK.o _ ?_);(first|(with_reducible exact HBN.o)|(with_reducible exact fh.drew)|(go_grown;done)|(go_grown;with_reducible exact HBN.o))))
  (first
   |(go_at_call 258;go_split_ands;(with_reducible refine(vh c A n k s.cap _).mono ?_);rintro r wX ⟨rfl,hbX⟩;have HBM:=ze ((‹Below V.heap.size V _›).trans (hbX.mono (‹Below V.heap.size V _›).size));(try clear HBN);have HBN:=ze HBM.o;(try clear hzN);have hzN:=HBN.o.size;clear HBM hbX))
 all_goals
  go_wp2_with fail;go_ret2;exact .inl ⟨rfl,.inr (.inl HF.o),HQS.o▸HBV.o.trans (HBN.o.mono (by omega))⟩
theorem ZF(s:Sc)(sA:Option Addr)(sn sk:Nat)(h:Nat)(tA:Option Addr)(tn tc:Nat)(I T f:Int)(base cb:Nat)(c:Cr)(A:Option Addr)(n k B:Nat)(l:List Rid)(trips:List Tr)(S:HS)(w:World)
  (hbx:Bx w cb (c.lv (.slice A n k)))(hr:Rds w B A n l)(hB:B<=w.heap.size)(hn:n<=1000)(H:Hl w h S)(hwf:hallK.wf (zL s I f c.dir))(hnw:S.nw<=1000000)(hd:c.dir≠0)(hf:(n:Int)<s.cap)(hL:S.L (zL s I f c.dir)=[]):
  Calls prog 233 #[aj s sA sn sk h (.slice tA tn tc) I T,.pointer (some ⟨cb,0,none⟩),O J f] w (InP base cb s c l I f T (.slice tA tn tc) trips h S w):=by
 have e1:(c.dir==0)=false:=by simpa using hd
 have e2:decide (s.cap<=(n:Int))=false:=by simp;omega
 have HD:=ze hd;have HF:=ze hf;have HH:=ze H;have HWF:=ze hwf;have HKEY:=ze (fun V=>Jq s sA sn sk h tA tn tc I T f c.dir V);clear hd hf H hwf;have HBX:=ze hbx;have hcb:=hbx.lt (by simp);have HL:=ze hr.2;go_enter func233,ntmps233;go_upto_region 1 with(fail);refine zq (w:=w) (fun V=>Bx V w.heap.size (ZD s sA sn sk h (.slice tA tn tc) I T)/\w.heap.size<V.heap.size) ⟨Bx.new w (ZD s sA sn sk h (.slice tA tn tc) I T) 328,by simp⟩ ((Below.refl w.heap.size w).alloc fi _) ?_;rintro V ⟨hx,hzV⟩ hbV;have HX:=ze hx;have HBV:=ze hbV;have HCV:=ze (HBX.o.below hbV hcb);have hcV:cb<V.heap.size:=by omega
 generalize hqs:w.heap.size=q at*;have HQS:=ze hqs;clear hx hbV HBX hqs
 go_cut [24] (fun v wx=>v=.bool false/\Below V.heap.size V wx)
 case first=>
  have MK:=ze (fun W(hb:Below V.heap.size V W)=>(show c.K A n k W cb/\W.cell? ⟨q,3,none⟩=some (O J s.cap)/\Below V.heap.size V W from⟨(HCV.o.below hb hcV).k6 rfl,((HX.o.below hb hzV) 3 _ rfl).1,hb⟩))
  go_region_held3 (fun W=>c.K A n k W cb/\W.cell? ⟨q,3,none⟩=some (O J s.cap)/\Below V.heap.size V W)
   (((refine MK.o _ ?_);(first|(with_reducible exact HBN.o)|(with_reducible exact fh.drew)|(go_grown;done)|(go_grown;with_reducible exact HBN.o))))
   (first
    |(go_at_call 258;go_split_ands;(with_reducible refine(vh c A n k s.cap _).mono ?_);rintro r wX ⟨rfl,hbX⟩;have HBM:=ze ((‹Below V.heap.size V _›).trans (hbX.mono (‹Below V.heap.size V _›).size));(try clear HBN);have HBN:=ze HBM.o;(try clear hzN);have hzN:=HBN.o.size;clear HBM hbX))
  all_goals(go_wp2_with fail;go_meet;exact⟨rfl,HBN.o⟩)
 case rest=>
 obtain⟨rfl,hbw⟩:=hcut;have HBW:=ze hbw;have hzw:=hbw.size;clear hbw;go_upto_region 3 with(fail);obtain⟨W1,hW1⟩:∃ W1,W1=wc:=⟨_,rfl⟩;subst hW1
 go_cut [8] (fun v wx=>∃ q2:Nat,v=.pointer (some ⟨q2,0,none⟩)/\q2<wx.heap.size/\V.heap.size<=q2/\Bx wx q2 [O J (zL s I f c.dir).1,O J (zL s I f c.dir).2.1,O J (zL s I f c.dir).2.2]/\Below V.heap.size V wx)
 case first=>
  generalize hK0:zL s I f c.dir=K0 at*;have MK2:=ze (fun W(hb:Below V.heap.size V W)=>(show s.K sA sn sk W q/\W.cell? ⟨q,13,none⟩=some (.pointer (some ⟨h,0,none⟩))/\W.cell? ⟨q,14,none⟩=some (.slice tA tn tc)/\W.cell? ⟨q,15,none⟩=some (O J I)/\W.cell? ⟨q,16,none⟩=some (O J T)/\W.cell? ⟨cb,1,none⟩=some (O J c.dir)/\Below V.heap.size V W from⟨(HX.o.below hb hzV).k13 rfl,((HX.o.below hb hzV) 13 _ rfl).1,((HX.o.below hb hzV) 14 _ rfl).1,((HX.o.below hb hzV) 15 _ rfl).1,((HX.o.below hb hzV) 16 _ rfl).1,((HCV.o.below hb hcV) 1 _ rfl).1,hb⟩))
  go_region_held3 (fun W=>s.K sA sn sk W q/\W.cell? ⟨q,13,none⟩=some (.pointer (some ⟨h,0,none⟩))/\W.cell? ⟨q,14,none⟩=some (.slice tA tn tc)/\W.cell? ⟨q,15,none⟩=some (O J I)/\W.cell? ⟨q,16,none⟩=some (O J T)/\W.cell? ⟨cb,1,none⟩=some (O J c.dir)/\Below V.heap.size V W)
   (((refine MK2.o _ ?_);(first|(with_reducible exact HBN.o)|(with_reducible exact HBW.o)|(with_reducible exact HBW.o.drew)|(with_reducible exact fh.drew)|(go_grown;done)|(go_grown;with_reducible exact HBN.o)|(go_grown;with_reducible exact HBW.o))))
   (first
    |(go_at_call 259;go_split_ands;(with_reducible refine(HKEY.o _).mono ?_);rintro r wX ⟨rfl,hbX⟩;(try(have HZ:=ze (Bx.below (Bx.new W1.drew [O J 0,O J 0,O J 0] 360) hbX (by simp));have zz:W1.heap.size<wX.heap.size:=(by have:=hbX.size;simp at this;omega);have d0:wX.cell? ⟨W1.heap.size,0,none⟩=some (O J 0):=zf hbX (by simp);have d1:wX.cell? ⟨W1.heap.size,1,none⟩=some (O J 0):=zf hbX (by simp);have d2:wX.cell? ⟨W1.heap.size,2,none⟩=some (O J 0):=zf hbX (by simp);have g0:wX.frozen? ⟨W1.heap.size,0,none⟩=false:=zG hbX (by simp) (by simp);have g1:wX.frozen? ⟨W1.heap.size,1,none⟩=false:=zG hbX (by simp) (by simp);have g2:wX.frozen? ⟨W1.heap.size,2,none⟩=false:=zG hbX (by simp) (by simp)));have HBM:=ze ((‹Below V.heap.size V _›).trans (hbX.mono (‹Below V.heap.size V _›).size));(try clear HBN);have HBN:=ze HBM.o;(try clear hzN);have hzN:=HBN.o.size;clear HBM hbX))
  ·go_wp2_with fail
   go_meet
   exact⟨_,rfl,by simp,hzN,Bx.new wX [O J K0.1,O J K0.2.1,O J K0.2.2] 360,HBN.o.alloc hzN _⟩
  ·go_wp2_with fail
   go_meet
   exact⟨_,rfl,by simpa using zz,hzw,((HZ.o.set 0 (O J K0.1)).set 1 (O J K0.2.1)).set 2 (O J K0.2.2),((HBN.o.setCell (p:=⟨W1.heap.size,0,none⟩) hzw _).setCell (p:=⟨W1.heap.size,1,none⟩) hzw _).setCell (p:=⟨W1.heap.size,2,none⟩) hzw _⟩
 case rest=>
 obtain⟨q2,rfl,hq2,hq2V,hkb,hbw2⟩:=hcut;have HKB:=ze hkb;have HBW2:=ze hbw2;clear hkb hbw2 HBW hzw;obtain⟨W2,hW2⟩:∃ W2,W2=wc:=⟨_,rfl⟩;subst hW2;have HBWW:=ze ((HQS.o▸HBV.o:Below w.heap.size w V).trans (HBW2.o.mono (by have:=HQS.o;omega)));have HHW:=ze (HH.o.below HBWW.o);obtain⟨⟨x0,x1,x2,x3,x4,x5,x6,x7,x8,x9,x10,x11,x12,x13,x14,x15,x16⟩,-⟩:=(HX.o.below HBW2.o hzV).o17;obtain⟨⟨y0,y1,y2⟩,-⟩:=HKB.o.o3;have HTK:=ze (J0 h S (zL s I f c.dir) W2 HHW.o HWF.o hnw);clear x0 x1 x2 x3 x4 x5 x6 x7 x8 x9 x10 x11 x12 x14 x15 x16;have HLL:=ze hL;clear hL;go_wp2_with(go_at_call 260;refine HTK.o.mono ?_;rintro r w3 hP;obtain⟨rfl,hb3⟩:=TakeP.none_ HLL.o hP;have HB3:=ze hb3;clear hP hb3);go_ret2;exact .inl ⟨rfl,.inr (.inr HLL.o),HBWW.o.trans ((HB3.o.alloc (Nat.le_trans fi HB3.o.size) _).mono (by have:=HBWW.o.size;omega))⟩
theorem ZG(s:Sc)(sA:Option Addr)(sn sk:Nat)(h:Nat)(tA:Option Addr)(tn tc:Nat)(I T f:Int)(base cb:Nat)(c:Cr)(A:Option Addr)(n k B:Nat)(l:List Rid)(trips:List Tr)(S:HS)(w:World)
  (hbx:Bx w cb (c.lv (.slice A n k)))(hr:Rds w B A n l)(hB:B<=w.heap.size)(hn:n<=1000)(H:Hl w h S)(hwf:hallK.wf (zL s I f c.dir))(hnw:S.nw<=1000000)(hd:c.dir≠0)(hf:(n:Int)<s.cap)(x:Wt)(tl:List Wt)(hL:S.L (zL s I f c.dir)=x::tl)(hXC:¬ Xh S h cb)(hXR:∀ b off,A=some ⟨b,off,none⟩->¬ Xh S h b)(ht:Own w base 87 7 kN (.slice tA tn tc) trips)(hne:∀ q,(Value.slice tA tn tc).ownBlock=some q->q≠cb)(hXT:∀ q,(Value.slice tA tn tc).ownBlock=some q->¬ Xh S h q)(hid0:0<=x.id)(hid1:x.id<trips.length)(hI:0<=I):
  Calls prog 233 #[aj s sA sn sk h (.slice tA tn tc) I T,.pointer (some ⟨cb,0,none⟩),O J f] w (InP base cb s c l I f T (.slice tA tn tc) trips h S w):=by
 have e1:(c.dir==0)=false:=by simpa using hd
 have e2:decide (s.cap<=(n:Int))=false:=by simp;omega
 have HD:=ze hd;have HF:=ze hf;have HH:=ze H;have HWF:=ze hwf;have HXC:=ze hXC;have HT:=ze ht;have HNE:=ze hne;have HXT0:=ze hXT;have HI:=ze hI;have HXR:=ze hXR;have HR:=ze hr;have HKEY:=ze (fun V=>Jq s sA sn sk h tA tn tc I T f c.dir V);clear hd hf H hwf hXC hXR ht hne hXT hI;have HBX:=ze hbx;have hcb:=hbx.lt (by simp);have HL:=ze hr.2;go_enter func233,ntmps233;go_upto_region 1 with(fail);refine zq (w:=w) (fun V=>Bx V w.heap.size (ZD s sA sn sk h (.slice tA tn tc) I T)/\w.heap.size<V.heap.size) ⟨Bx.new w (ZD s sA sn sk h (.slice tA tn tc) I T) 328,by simp⟩ ((Below.refl w.heap.size w).alloc fi _) ?_;rintro V ⟨hx,hzV⟩ hbV;have HX:=ze hx;have HBV:=ze hbV;have HCV:=ze (HBX.o.below hbV hcb);have hcV:cb<V.heap.size:=by omega
 generalize hqs:w.heap.size=q at*;have HQS:=ze hqs;clear hx hbV HBX hqs
 go_cut [24] (fun v wx=>v=.bool false/\Below V.heap.size V wx)
 case first=>
  have MK:=ze (fun W(hb:Below V.heap.size V W)=>(show c.K A n k W cb/\W.cell? ⟨q,3,none⟩=some (O J s.cap)/\Below V.heap.size V W from⟨(HCV.o.below hb hcV).k6 rfl,((HX.o.below hb hzV) 3 _ rfl).1,hb⟩))
  go_region_held3 (fun W=>c.K A n k W cb/\W.cell? ⟨q,3,none⟩=some (O J s.cap)/\Below V.heap.size V W)
   (((refine MK.o _ ?_);(first|(with_reducible exact HBN.o)|(with_reducible exact fh.drew)|(go_grown;done)|(go_grown;with_reducible exact HBN.o))))
   (first
    |(go_at_call 258;go_split_ands;(with_reducible refine(vh c A n k s.cap _).mono ?_);rintro r wX ⟨rfl,hbX⟩;have HBM:=ze ((‹Below V.heap.size V _›).trans (hbX.mono (‹Below V.heap.size V _›).size));(try clear HBN);have HBN:=ze HBM.o;(try clear hzN);have hzN:=HBN.o.size;clear HBM hbX))
  all_goals(go_wp2_with fail;go_meet;exact⟨rfl,HBN.o⟩)
 case rest=>
 obtain⟨rfl,hbw⟩:=hcut;have HBW:=ze hbw;have hzw:=hbw.size;clear hbw;go_upto_region 3 with(fail);obtain⟨W1,hW1⟩:∃ W1,W1=wc:=⟨_,rfl⟩;subst hW1
 go_cut [8] (fun v wx=>∃ q2:Nat,v=.pointer (some ⟨q2,0,none⟩)/\q2<wx.heap.size/\V.heap.size<=q2/\Bx wx q2 [O J (zL s I f c.dir).1,O J (zL s I f c.dir).2.1,O J (zL s I f c.dir).2.2]/\Below V.heap.size V wx)
 case first=>
  generalize hK0:zL s I f c.dir=K0 at*;have MK2:=ze (fun W(hb:Below V.heap.size V W)=>(show s.K sA sn sk W q/\W.cell? ⟨q,13,none⟩=some (.pointer (some ⟨h,0,none⟩))/\W.cell? ⟨q,14,none⟩=some (.slice tA tn tc)/\W.cell? ⟨q,15,none⟩=some (O J I)/\W.cell? ⟨q,16,none⟩=some (O J T)/\W.cell? ⟨cb,1,none⟩=some (O J c.dir)/\Below V.heap.size V W from⟨(HX.o.below hb hzV).k13 rfl,((HX.o.below hb hzV) 13 _ rfl).1,((HX.o.below hb hzV) 14 _ rfl).1,((HX.o.below hb hzV) 15 _ rfl).1,((HX.o.below hb hzV) 16 _ rfl).1,((HCV.o.below hb hcV) 1 _ rfl).1,hb⟩))
  go_region_held3 (fun W=>s.K sA sn sk W q/\W.cell? ⟨q,13,none⟩=some (.pointer (some ⟨h,0,none⟩))/\W.cell? ⟨q,14,none⟩=some (.slice tA tn tc)/\W.cell? ⟨q,15,none⟩=some (O J I)/\W.cell? ⟨q,16,none⟩=some (O J T)/\W.cell? ⟨cb,1,none⟩=some (O J c.dir)/\Below V.heap.size V W)
   (((refine MK2.o _ ?_);(first|(with_reducible exact HBN.o)|(with_reducible exact HBW.o)|(with_reducible exact HBW.o.drew)|(with_reducible exact fh.drew)|(go_grown;done)|(go_grown;with_reducible exact HBN.o)|(go_grown;with_reducible exact HBW.o))))
   (first
    |(go_at_call 259;go_split_ands;(with_reducible refine(HKEY.o _).mono ?_);rintro r wX ⟨rfl,hbX⟩;(try(have HZ:=ze (Bx.below (Bx.new W1.drew [O J 0,O J 0,O J 0] 360) hbX (by simp));have zz:W1.heap.size<wX.heap.size:=(by have:=hbX.size;simp at this;omega);have d0:wX.cell? ⟨W1.heap.size,0,none⟩=some (O J 0):=zf hbX (by simp);have d1:wX.cell? ⟨W1.heap.size,1,none⟩=some (O J 0):=zf hbX (by simp);have d2:wX.cell? ⟨W1.heap.size,2,none⟩=some (O J 0):=zf hbX (by simp);have g0:wX.frozen? ⟨W1.heap.size,0,none⟩=false:=zG hbX (by simp) (by simp);have g1:wX.frozen? ⟨W1.heap.size,1,none⟩=false:=zG hbX (by simp) (by simp);have g2:wX.frozen? ⟨W1.heap.size,2,none⟩=false:=zG hbX (by simp) (by simp)));have HBM:=ze ((‹Below V.heap.size V _›).trans (hbX.mono (‹Below V.heap.size V _›).size));(try clear HBN);have HBN:=ze HBM.o;(try clear hzN);have hzN:=HBN.o.size;clear HBM hbX))
  ·go_wp2_with fail
   go_meet
   exact⟨_,rfl,by simp,hzN,Bx.new wX [O J K0.1,O J K0.2.1,O J K0.2.2] 360,HBN.o.alloc hzN _⟩
  ·go_wp2_with fail
   go_meet
   exact⟨_,rfl,by simpa using zz,hzw,((HZ.o.set 0 (O J K0.1)).set 1 (O J K0.2.1)).set 2 (O J K0.2.2),((HBN.o.setCell (p:=⟨W1.heap.size,0,none⟩) hzw _).setCell (p:=⟨W1.heap.size,1,none⟩) hzw _).setCell (p:=⟨W1.heap.size,2,none⟩) hzw _⟩
 case rest=>
 obtain⟨q2,rfl,hq2,hq2V,hkb,hbw2⟩:=hcut;have HKB:=ze hkb;have HBW2:=ze hbw2;clear hkb hbw2 HBW hzw;obtain⟨W2,hW2⟩:∃ W2,W2=wc:=⟨_,rfl⟩;subst hW2;have HBWW:=ze ((HQS.o▸HBV.o:Below w.heap.size w V).trans (HBW2.o.mono (by have:=HQS.o;omega)));have HHW:=ze (HH.o.below HBWW.o);obtain⟨⟨x0,x1,x2,x3,x4,x5,x6,x7,x8,x9,x10,x11,x12,x13,x14,x15,x16⟩,-⟩:=(HX.o.below HBW2.o hzV).o17;obtain⟨⟨y0,y1,y2⟩,-⟩:=HKB.o.o3;have HTK:=ze (J0 h S (zL s I f c.dir) W2 HHW.o HWF.o hnw);clear x0 x1 x2 x3 x4 x5 x6 x7 x8 x9 x10 x11 x12 x14 x15 x16;have HLL:=ze hL;obtain⟨xi,xf,xo,xc⟩:=x;obtain⟨m,hm⟩:=Int.eq_ofNat_of_zero_le (show 0<=xi from hid0);have hid2:m<trips.length:=by have:xi<trips.length:=hid1;omega
 obtain⟨t,ht⟩:∃ t,trips[m]?=some t:=⟨_,List.getElem?_eq_getElem hid2⟩;have HTT:=ze ht;have HID:=ze hid2;have HM:=ze hm;obtain⟨tg,tcap,htv,htb,htl',-,-,-⟩:=HT.o.at_ (by omega);simp only[Value.slice.injEq]at htv;obtain⟨rfl,rfl,rfl⟩:=htv;have hcg:=HNE.o tg rfl;have HXT:=ze (HXT0.o tg rfl);have HTB:=ze (show base<=tg/\tg<w.heap.size from⟨htb,htl'⟩);clear hid0 hid1 hid2 ht hm HNE HXT0 htb htl';go_upto_region 7 with(go_at_call 260;refine HTK.o.mono ?_;rintro r w3 hP;obtain⟨rfl,nw,cc,hN,hnw1⟩:=TakeP.some_ HLL.o hP;have HN:=ze hN;have HNW:=ze hnw1;clear hP hN hnw1);clear x13 y0 y1 y2;have HXL:=ze (fun p(hp:Xh S h p)=>HH.o.xlt hp);have hz2:=HBW2.o.size;have hz3:=HN.o.but.size;have HC3:=ze ((HCV.o.below HBW2.o hcV).but HN.o.but (by omega) HXC.o);have HX3:=ze ((HX.o.below HBW2.o hzV).but HN.o.but (by omega) (fun hp=>by have:=HXL.o _ hp;have:=HQS.o;omega));have HK3:=ze (HKB.o.but HN.o.but (by omega) (fun hp=>by have:=HXL.o _ hp;have:=HQS.o;omega));have HR3:=ze ((HR.o.1.below (HBWW.o.mono (HQS.o▸hB))).but HN.o.but (by omega) HXR.o);refine zq (w:=w3) (fun V4=>Bx V4 w3.heap.size [O J xi,O J xf,O J xo,O J xc]/\w3.heap.size<V4.heap.size) ⟨Bx.new w3 [O J xi,O J xf,O J xo,O J xc] 318,by simp⟩ ((Below.refl w3.heap.size w3).alloc fi _) ?_;rintro V4 ⟨hw4,h44⟩ hb4;have HC4:=ze (HC3.o.below hb4 (by omega));have HX4:=ze (HX3.o.below hb4 (by omega));have HK4:=ze (HK3.o.below hb4 (by omega));have HW4:=ze hw4;have HB4:=ze hb4;have HRK:=ze (fun W(hb:Below V4.heap.size V4 W)=>(HR3.o.below (hb4.mono (by omega))).below (hb.mono (by have:=hb4.size;omega)));generalize hq4:w3.heap.size=q4 at*;have hc4:cb<V4.heap.size:=by omega
 have hLN:l.length<=1000000000:=by have:=HL.o;omega
 have HLN:=ze hLN;have hB4:B<=V4.heap.size:=by omega
 have hx4:q<V4.heap.size:=by omega
 have hk4:q2<V4.heap.size:=by omega
 clear hw4 hb4 hLN HC3 HX3 HK3 HR3 HTK
 go_cut [] (fun wx=>∃ A' n' k',Own wx V4.heap.size 401 2 jS (.slice A' n' k') (l++[⟨xi,xo⟩])/\Bx wx cb (c.lv (.slice A' n' k'))/\But (fun p=>p=cb) V4 wx)
 case first=>
  obtain⟨⟨c0,c1,c2,c3,c4,c5⟩,-,-,-,-,-,f5⟩:=HC4.o.o6;obtain⟨⟨b0,b1,b2,b3⟩,-⟩:=HW4.o.o4;clear c0 c1 c2 c3 c4 b1 b3
  go_region_law (first
   |(refine Gx rfl _ _ 263 rfl underlying263 Rider.info rfl (by omega) (by omega) rfl (Own.nil _ _ _ 2 jS) l B _ n _ rfl HL.o (HRK.o _ (by first|exact fh.drew|exact(fh.drew).alloc fi _)) (kV _) (by simp) (by omega) fi ?_;intro v6 w6 hown6 hb6;have HO6:=ze (show Own w6 _ 401 2 jS v6 l from hown6);have HS6:=ze hb6.size;have HB6:=ze (eU (V:=V4) hb6 (by first|exact fh.drew|exact(fh.drew).alloc fi _));(try(have HBL:=ze (fun(j:Nat)(u:Value)(hu:(jS ⟨xi,xo⟩)[j]?=some u)=>zf hb6 (Yr V4.drew ⟨xi,xo⟩ _ rfl 401 j u hu))));have HG6:=ze (fun p hp=>(show V4.heap.size<=p from Nat.le_trans (by first|exact fi|(simp;done)) (hown6.row.lt p hp).1));have HGB:=ze (eV (V:=V4) hb6 (by first|exact fh.drew|exact(fh.drew).alloc fi _));clear hown6 hb6;obtain⟨⟨-,-,-,-,-,d5⟩,-,-,-,-,-,g5⟩:=(HC4.o.below HB6.o hc4).o6;obtain⟨⟨a0,-,a2,-⟩,-⟩:=(HW4.o.below HB6.o h44).o4)
   |(refine jn (P:=prog) rfl _ _ 263 rfl underlying263 Rider.info rfl (by omega) (by omega) rfl (HO6.o.alloc _) (⟨xi,xo⟩:Rid) ⟨_,0,none⟩ 1 rfl rfl (Yr _ _ _ rfl _) (Z6 _) HLN.o (Nat.le_trans HS6.o (by simp)) ?_;intro v7 w7 k1 k2 k3;obtain⟨A',n',k',rfl,hn',hnk'⟩:=Own.slice k1;have HO7:=ze k1;have HB7:=ze (eL (V:=V4) k2 (HB6.o.alloc HB6.o.size _) HG6.o);have HS7:=ze (fun p hp=>HG6.o p hp);have HO8:=ze (Own.small k1 HGB.o);clear k1 k2 k3 hn' hnk';obtain⟨⟨-,-,-,-,-,d5⟩,-,-,-,-,-,g5⟩:=(HC4.o.below HB7.o hc4).o6)
   |(refine jn (P:=prog) rfl _ _ 263 rfl underlying263 Rider.info rfl (by omega) (by omega) rfl HO6.o (⟨xi,xo⟩:Rid) ⟨_,0,none⟩ 1 rfl rfl HBL.o (Z6 _) HLN.o HS6.o ?_;intro v7 w7 k1 k2 k3;obtain⟨A',n',k',rfl,hn',hnk'⟩:=Own.slice k1;have HO7:=ze k1;have HB7:=ze (eL (V:=V4) k2 HB6.o HG6.o);have HS7:=ze (fun p hp=>HG6.o p hp);have HO8:=ze (Own.small k1 HGB.o);clear k1 k2 k3 hn' hnk';obtain⟨⟨-,-,-,-,-,d5⟩,-,-,-,-,-,g5⟩:=(HC4.o.below HB7.o hc4).o6))
  all_goals(go_wp2_with fail;go_meet;exact⟨A',n',k',HO8.o.setBelow hc4 _,(HC4.o.below HB7.o hc4).set 5 _,But.one HB7.o⟩)
 case rest=>
 obtain⟨A',n',k',hO,hX,hBt⟩:=hcut;have HO5:=ze hO;have HC5:=ze hX;have HB5:=ze hBt;obtain⟨V5,hV5⟩:∃ V5,V5=wc:=⟨_,rfl⟩;subst hV5;have hz5:=hBt.size;clear hO hX hBt;have HX5:=ze (HX4.o.but HB5.o hx4 (by omega));have HK5:=ze (HK4.o.but HB5.o hk4 (by omega));have HW5:=ze (HW4.o.but HB5.o h44 (by omega));have hnx:¬ Xh (S.at_ S.mw nw (zL s I f c.dir) cc tl) h cb:=fun hp=>HXC.o (HN.o.x cb (by omega) hp)
 have HNX:=ze hnx;have HXQ:=ze (show Xh (S.at_ S.mw nw (zL s I f c.dir) cc tl) h q->q<q from fun hp=>by have h1:=HN.o.x q (by omega) hp;have:=HXL.o q h1;have:=HQS.o;omega);have HH5:=ze ((HN.o.hl.below (by first|exact HB4.o|(show Below w3.heap.size w3 _;rw[hq4];exact HB4.o))).but HB5.o (fun p hp e=>HNX.o (e▸hp)));have HT3:=ze ((HT.o.below HBWW.o).but HN.o.but (fun p hp hx=>by have e:tg=p:=(by simpa[Value.ownBlock]using hp);exact HXT.o (e▸hx)));have HT5:=ze ((HT3.o.below (by first|exact HB4.o|(show Below w3.heap.size w3 _;rw[hq4];exact HB4.o))).but HB5.o (fun p hp e=>by have e2:tg=p:=(by simpa[Value.ownBlock]using hp);exact hcg (e2.trans e)));have hsz:q<V5.heap.size/\q2<V5.heap.size/\q4<V5.heap.size/\cb<V5.heap.size:=by omega
 have HSZ:=ze hsz;have HBT:=ze (show But (fun p=>p=cb\/Xh S h p) w V5 from by
  have h1:But (fun p=>p=cb\/Xh S h p) W2 w3:=HN.o.but.mono (fun _ _ h=>.inr h);have h2:=(But.of_below (X:=fun p=>p=cb\/Xh S h p) HBWW.o).trans h1 (fun _ _ h=>h);have h3:=h2.then_ (by first|exact HB4.o|(show Below w3.heap.size w3 _;rw[hq4];exact HB4.o));exact h3.trans HB5.o (fun _ _ e=>.inl e))
 have HXN:=ze (fun p(hp:Xh (S.at_ S.mw nw (zL s I f c.dir) cc tl) h p)=>(show p<V4.heap.size from by have:=HN.o.hl.xlt hp;omega));have HX1:=ze (fun p(hpz:p<w.heap.size)(hp:Xh (S.at_ S.mw nw (zL s I f c.dir) cc tl) h p)=>HN.o.x p (by have:=HBWW.o.size;omega) hp);have HVV:=ze (show w.heap.size<=V4.heap.size/\V4.heap.size<=V5.heap.size from⟨by have:=HBWW.o.size;omega,HB5.o.size⟩);clear HT HT3 hnx HB5 HC4 HX4 HK4 HW4 HRK HH HHW HKB HBW2 HBWW HX HCV hx4 hk4 h44 hc4 hz2 hz3 hz5 hq2 hB4 hsz hzV hcV HR HN HB4 hbx hr;have m0:(0:Int)<=xi:=by have:=HM.o;omega
 have m1:xi<(trips.length:Int):=by have:=HM.o;have:=HID.o;omega
 have m2:xi.toNat=m:=by have:=HM.o;omega
 go_upto_region 8 with(fail)
 go_cut [] (fun wx=>Own wx base 87 7 kN (.slice (some ⟨tg,0,none⟩) trips.length tc) (trips.set m {t with car:=I,bo:=T})/\But (fun p=>p=tg) V5 wx)
 case first=>
  obtain⟨⟨x0,x1,x2,x3,x4,x5,x6,x7,x8,x9,x10,x11,x12,x13,x14,x15,x16⟩,-⟩:=HX5.o.o17;obtain⟨⟨b0,b1,b2,b3⟩,-⟩:=HW5.o.o4;obtain⟨z4,y4⟩:=HT5.o.elem_cell qE rfl HTT.o (show 4<7 by omega) rfl;obtain⟨z5,y5⟩:=HT5.o.elem_cell qE rfl HTT.o (show 5<7 by omega) rfl;clear x0 x1 x2 x3 x4 x5 x6 x7 x8 x9 x10 x11 x12 x13 b1 b2 b3;have hq5:=HSZ.o;go_region
  all_goals(
   go_wp2_with fail
   go_meet
   have hi:=HID.o;have s1:=(HT5.o.storeF qE rfl HTT.o (x':={t with car:=I}) (j:=4) (u:=O J I) rfl (by omega)).1;have s2:=(s1.storeF qE (by rw[List.length_set]) (z:=m) (j:=5) (x:={t with car:=I}) (x':={t with car:=I,bo:=T}) (u:=O J T) (by rw[List.getElem?_set];simp[hi]) rfl (by omega)).1;rw[List.set_set]at s2;exact⟨s2.drew,((But.two (o:=m*7+4) (o':=m*7+5)).drew)⟩)
 case rest=>
 obtain⟨hT6,hB6⟩:=hcut;obtain⟨V6,hV6⟩:∃ V6,V6=wc:=⟨_,rfl⟩;subst hV6;have HT6:=ze hT6;have HB6:=ze hB6;have HX6:=ze (HX5.o.but HB6.o HSZ.o.1 (fun e=>by have:=HTB.o;have:=HQS.o;omega));have HK6:=ze (HK5.o.but HB6.o HSZ.o.2.1 (fun e=>by have:=HTB.o;have:=HQS.o;have:=HBV.o.size;omega));have HC6:=ze (HC5.o.but HB6.o HSZ.o.2.2.2 (fun e=>hcg e.symm));have HNT:=ze (show¬Xh (S.at_ S.mw nw (zL s I f c.dir) cc tl) h tg from fun hp=>HXT.o (HX1.o tg HTB.o.2 hp));have HH6:=ze (HH5.o.but HB6.o (fun p hp e=>HNT.o (e▸hp)));have HO6:=ze (HO5.o.but HB6.o (fun p hp e=>by have:=(HO5.o.row.lt p hp).1;have:=HTB.o;have:=HVV.o;omega));have hsz6:q<V6.heap.size/\q2<V6.heap.size/\cb<V6.heap.size:=by have:=HSZ.o;have:=hB6.size;omega
 have HSZ6:=ze hsz6;have hxo:∀ p',(Value.slice A' n' k').ownBlock=some p'->¬ Xh (S.at_ S.mw nw (zL s I f c.dir) cc tl) h p':=fun p' hp' hp=>by have h1:=HXN.o p' hp;have h2:=(HO6.o.row.lt p' hp').1;omega
 have HIN:=ze (show InS base cb c l I T (.slice (some ⟨tg,0,none⟩) trips.length tc) trips h S (qf S.L (zL s I f c.dir) tl) ⟨xi,xf,xo,xc⟩ t w A' n' k' (S.at_ S.mw nw (zL s I f c.dir) cc tl) V6 from
  ⟨HO6.o.small HVV.o.1,HC6.o,by rw[show(⟨xi,xf,xo,xc⟩:Wt).id.toNat=m from m2];exact HT6.o,⟨HH6.o,HX1.o,rfl,HNW.o,by show S.nc<=S.nc+1;omega⟩,
   (HBT.o.mono (Y:=fun p=>p=cb\/(Value.slice (some ⟨tg,0,none⟩) trips.length tc).ownBlock=some p\/Xh S h p) (fun _ _ hx=>hx.elim .inl (fun h=>.inr (.inr h)))).trans HB6.o (fun _ _ e=>.inr (.inl (by rw[e];rfl))),hxo⟩)
 have HFIN:=ze (show∀(W:World)(S':HS)(gone:Bool),InS base cb c l I T (.slice (some ⟨tg,0,none⟩) trips.length tc) trips h S (qf S.L (zL s I f c.dir) tl) ⟨xi,xf,xo,xc⟩ t w A' n' k' S' W->InP base cb s c l I f T (.slice (some ⟨tg,0,none⟩) trips.length tc) trips h S w (.returned (.tuple #[.bool true,.bool gone])) W from
  fun W S' gone H=>.inr ⟨⟨xi,xf,xo,xc⟩,tl,t,A',n',k',S',gone,rfl,HD.o,by rw[HL.o];exact HF.o,HLL.o,by rw[show(⟨xi,xf,xo,xc⟩:Wt).id.toNat=m from m2];exact HTT.o,H.o,H.b,H.t,H.hh,H.but,H.ro⟩)
 clear HT5 HT6 hT6 hB6 HB6 HX5 HK5 HC5 HH5 HO5 HBT hsz6 hxo HW5 HSZ HC6;obtain⟨⟨y0,y1,y2⟩,-⟩:=HK6.o.o3;by_cases hdp:s.disp=4
 ·have e9:decide ((zL s I f c.dir).2.2<0)=false:=by
   unfold zL;rw[if_pos hdp];have:=HI.o;simp;omega
  clear hdp;generalize hK2:(zL s I f c.dir).2.2=K2 at*;clear y0 y1;go_wp2_with fail;go_ret2;exact HFIN.o _ _ _ HIN.o
 ·have e9:decide ((zL s I f c.dir).2.2<0)=true:=by
   unfold zL;rw[if_neg hdp];simp
  clear hdp;obtain⟨⟨x0,x1,x2,x3,x4,x5,x6,x7,x8,x9,x10,x11,x12,x13,x14,x15,x16⟩,-⟩:=HX6.o.o17;clear x0 x1 x2 x3 x4 x5 x6 x7 x8 x9 x10 x11 x12 x14 x15 x16;have HLEN:=ze (WJ h (S.at_ S.mw nw (zL s I f c.dir) cc tl) (zL s I f c.dir) V6 HH6.o HWF.o);generalize((S.at_ S.mw nw (zL s I f c.dir) cc tl).fw (zL s I f c.dir)).getD ⟨none,0,0⟩=sl at*;obtain⟨sA2,z,sc2⟩:=sl;have HWC:=ze (show cellK.wf (f,c.dir)from⟨HWF.o.1,HWF.o.2.1⟩);generalize hK0:zL s I f c.dir=K0 at*;by_cases hz0:z=0
  ·have ez:((z:Int)==0)=true:=by simp[hz0]
   have HZ0:=ze hz0;clear hz0;go_wp2_with(go_at_call 261;refine HLEN.o.mono ?_;rintro r w7 ⟨rfl,hb7⟩;have HB7:=ze hb7;clear hb7);have HIN7:=ze (HIN.o.below HB7.o);have HX7:=ze (HX6.o.below HB7.o HSZ6.o.1);have hz7:=HB7.o.size;have HCL:=ze (VE h (S.at_ S.mw nw K0 cc tl) f c.dir w7.drew (HIN7.o.hh.hl.below fh.drew) HWC.o);have HK7:=ze (show w7.drew.cell? ⟨q,13,none⟩=some (.pointer (some ⟨h,0,none⟩))/\w7.drew.cell? ⟨cb,1,none⟩=some (O J c.dir)from⟨(HX7.o.drew 13 _ rfl).1,(HIN7.o.b.drew 1 _ rfl).1⟩);have HCKF:=ze (fun W(hc:JN w7.drew h (S.at_ S.mw nw K0 cc tl) W)=>(show W.cell? ⟨q,13,none⟩=some (.pointer (some ⟨h,0,none⟩))/\W.cell? ⟨cb,1,none⟩=some (O J c.dir)from by
    obtain⟨mc,nc,fc,hn,-⟩:=hc;exact⟨(HX7.o.drew.but hn.but (by simpa using Nat.lt_of_lt_of_le HSZ6.o.1 hz7) (fun hp=>by have:=HXN.o _ hp;have:=HXL.o;have h9:=HXQ.o hp;omega) 13 _ rfl).1,(HIN7.o.b.drew.but hn.but (by simpa using Nat.lt_of_lt_of_le HSZ6.o.2.2 hz7) (fun hp=>HNX.o hp) 1 _ rfl).1⟩))
   go_region_held3 (fun W=>W.cell? ⟨q,13,none⟩=some (.pointer (some ⟨h,0,none⟩))/\W.cell? ⟨cb,1,none⟩=some (O J c.dir))
    (first|(with_reducible exact HK8.o)|(with_reducible exact HK7.o))
    (first|(go_at_call 262;go_split_ands;(with_reducible refine HCL.o.mono ?_);rintro r w8 ⟨⟨gone,rfl⟩,hcp⟩;have HCP:=ze hcp;have HK8:=ze (HCKF.o _ hcp);clear hcp))
   all_goals(
    go_wp2_with fail;go_ret2;have hxtF:∀ p,(Value.slice (some ⟨tg,0,none⟩) trips.length tc).ownBlock=some p->¬ Xh S h p/\p<w.heap.size:=fun p hp=>by
     have e:tg=p:=by simpa[Value.ownBlock]using hp
     exact e▸⟨HXT.o,HTB.o.2⟩
    obtain⟨S2,hS2⟩:=(HIN7.o.below fh.drew).calls HCP.o fi HXC.o (by have:=HQS.o;omega) hxtF;exact HFIN.o _ _ _ hS2)
  ·have ez:((z:Int)==0)=false:=by simp[hz0]
   clear hz0;go_wp2_with(go_at_call 261;refine HLEN.o.mono ?_;rintro r w7 ⟨rfl,hb7⟩;have HB7:=ze hb7;clear hb7);go_ret2;exact HFIN.o _ _ _ (HIN.o.below HB7.o)
theorem Gy(s:Sc)(sA:Option Addr)(sn sk:Nat)(h:Nat)(tA:Option Addr)(tn tc:Nat)(I T f:Int)(base cb:Nat)(c:Cr)(A:Option Addr)(n k B:Nat)(l:List Rid)(trips:List Tr)(S:HS)(w:World)
  (hbx:Bx w cb (c.lv (.slice A n k)))(hr:Rds w B A n l)(hB:B<=w.heap.size)(hn:n<=1000)(H:Hl w h S)(hwf:hallK.wf (zL s I f c.dir))(hnw:S.nw<=1000000)(hXC:¬ Xh S h cb)(hXR:∀ b off,A=some ⟨b,off,none⟩->¬ Xh S h b)(ht:Own w base 87 7 kN (.slice tA tn tc) trips)(hne:∀ q,(Value.slice tA tn tc).ownBlock=some q->q≠cb)(hXT:∀ q,(Value.slice tA tn tc).ownBlock=some q->¬ Xh S h q)(hid:∀ x∈S.L (zL s I f c.dir),0<=x.id/\x.id<trips.length)(hI:0<=I):
  Calls prog 233 #[aj s sA sn sk h (.slice tA tn tc) I T,.pointer (some ⟨cb,0,none⟩),O J f] w (InP base cb s c l I f T (.slice tA tn tc) trips h S w):=by
 by_cases hd:c.dir=0
 ·exact Qq s sA sn sk h tA tn tc I T f base cb c A n k B l trips S w hbx hr hB hn hd
 ·by_cases hf:s.cap<=(n:Int)
  ·exact ZE s sA sn sk h tA tn tc I T f base cb c A n k B l trips S w hbx hr hB hn hd hf
  ·cases hL:S.L (zL s I f c.dir)with
   |nil=>exact ZF s sA sn sk h tA tn tc I T f base cb c A n k B l trips S w hbx hr hB hn H hwf hnw hd (by omega) hL
   |cons x tl=>
    have hx:=hid x (by rw[hL];exact List.mem_cons_self ..);exact ZG s sA sn sk h tA tn tc I T f base cb c A n k B l trips S w hbx hr hB hn H hwf hnw hd (by omega) x tl hL hXC hXR ht hne hXT hx.1 hx.2 hI
def SvRel(s:Sc)(I f T D:Int)(c:Cr)(l:List Rid)(trips:List Tr)(L:HK->List Wt)(c':Cr)(l':List Rid)(trips':List Tr)(L':HK->List Wt):Prop:=
 (∃j r t,l[j]?=some r/\r.to_=f/\trips[r.id.toNat]?=some t/\c'=⟨c.pos,D,3,s.tr,false⟩/\l'=l.take j++l.drop (j+1)/\trips'=trips.set r.id.toNat {t with al:=T}/\L'=L)\/
 (∃x tl t,(∀r∈l,r.to_≠f)/\D≠0/\(l.length:Int)<s.cap/\L (zL s I f D)=x::tl/\trips[x.id.toNat]?=some t/\c'=⟨c.pos,D,3,s.tr,false⟩/\l'=l++[⟨x.id,x.to_⟩]/\trips'=trips.set x.id.toNat {t with car:=I,bo:=T}/\L'=qf L (zL s I f D) tl)\/
 ((∀r∈l,r.to_≠f)/\(D=0\/s.cap<=(l.length:Int)\/L (zL s I f D)=[])/\l'=l/\trips'=trips/\L'=L/\c'=if c.wt=true then⟨c.pos,D,4,s.cl,false⟩else⟨c.pos,D,3,s.dw,true⟩)
section
variable{s:Sc}{I f T D:Int}{c c':Cr}{l l':List Rid}{trips trips':List Tr}{L L':HK->List Wt}{R:List (List Rid)}{i:Nat}
theorem SvRel.inv(h:SvRel s I f T D c l trips L c' l' trips' L')(hi:Inv T trips L R)(hl:R[i]?=some l)(hT:0<=T):Inv T trips' L' (R.set i l'):=by
 rcases h with⟨j,r,t,h1,-,h2,-,rfl,rfl,rfl⟩|⟨x,tl,t,-,-,-,h1,h2,-,rfl,rfl,rfl⟩|⟨-,-,rfl,rfl,rfl,-⟩
 ·exact hi.o hl (List.mem_of_getElem? h1) (fun x hx=>by
   rcases List.mem_append.1 hx with hx|hx
   ·exact List.mem_of_mem_take hx
   ·exact List.mem_of_mem_drop hx) h2
 ·exact hi.in_ h1 I x.to_ hl h2 hT
 ·rw[Ys hl];exact hi
theorem SvRel.len(h:SvRel s I f T D c l trips L c' l' trips' L'):trips'.length=trips.length:=by
 rcases h with⟨j,r,t,h1,-,h2,-,-,rfl,-⟩|⟨x,tl,t,-,-,-,h1,h2,-,-,rfl,-⟩|⟨-,-,-,rfl,-,-⟩<;>simp
theorem SvRel.cap(h:SvRel s I f T D c l trips L c' l' trips' L')(hl:(l.length:Int)<=s.cap):(l'.length:Int)<=s.cap:=by
 rcases h with⟨j,r,t,h1,-,h2,-,rfl,-,-⟩|⟨x,tl,t,-,-,h0,h1,h2,-,rfl,-,-⟩|⟨-,-,rfl,-,-,-⟩
 ·have:=(List.getElem?_eq_some_iff.1 h1).1;rw[List.length_append,List.length_take,List.length_drop];omega
 ·rw[List.length_append,List.length_singleton];omega
 ·exact hl
theorem SvRel.car(h:SvRel s I f T D c l trips L c' l' trips' L')(hs:s.ok):c'.pos=c.pos/\c'.dir=D/\(c'.mode=3\/c'.mode=4)/\1<=c'.left/\c'.left<=64:=by
 have h1:=hs.tr;have h2:=hs.dw;have h3:=hs.cl;rcases h with⟨j,r,t,-,-,-,rfl,-⟩|⟨x,tl,t,-,-,-,-,-,rfl,-⟩|⟨-,-,-,-,-,rfl⟩
 ·exact⟨rfl,rfl,.inl rfl,h1.1,h1.2⟩
 ·exact⟨rfl,rfl,.inl rfl,h1.1,h1.2⟩
 ·split
  ·exact⟨rfl,rfl,.inr rfl,h3.1,h3.2⟩
  ·exact⟨rfl,rfl,.inl rfl,h2.1,h2.2⟩
end
structure ServS(base:Nat)(A:Option Addr)(tv:Value)(h:Nat)(S:HS)(trips':List Tr)(L':HK->List Wt)(l':List Rid)(A':Option Addr)(n' k':Nat)(S':HS)(w w':World):Prop where
 r:Rds w' w'.heap.size A' n' l'
 k:n'<=k'
 rb:∀ b off,A'=some ⟨b,off,none⟩->(w.heap.size<=b\/∃ o,A=some ⟨b,o,none⟩)/\¬ Xh S' h b/\b<w'.heap.size
 t:Own w' base 87 7 kN tv trips'
 hh:HallTo w h S w' S' L'
 but:But (fun q=>tv.ownBlock=some q\/Xh S h q) w w'
theorem ServS.set{base:Nat}{A:Option Addr}{tv:Value}{h:Nat}{S:HS}{trips':List Tr}{L':HK->List Wt}{l':List Rid}{A':Option Addr}{n' k':Nat}{S':HS}{w w':World}(H:ServS base A tv h S trips' L' l' A' n' k' S' w w'){q:Nat}(o:Nat)(u:Value)(hq:w.heap.size<=q)(hA:∀ b off,A'=some ⟨b,off,none⟩->b≠q)(hx:¬ Xh S' h q)(ht:∀ p,tv.ownBlock=some p->p≠q):ServS base A tv h S trips' L' l' A' n' k' S' w (w'.setCell ⟨q,o,none⟩ u):=by
 have hb:But (fun p=>p=q) w' (w'.setCell ⟨q,o,none⟩ u):=HB.But.one fh;refine⟨⟨?_,H.r.2⟩,H.k,fun b off e=>by simpa using H.rb b off e,H.t.but hb (fun p hp e=>ht p hp e),⟨H.hh.hl.but hb (fun p hp e=>hx (e▸hp)),H.hh.x,H.hh.L,H.hh.nw,H.hh.nc⟩,H.but.trans hb (fun i hi e=>by omega)⟩;have:=H.r.1.but hb fi (fun b off e hb=>hA b off e hb);simpa using this
theorem ServS.sets{base:Nat}{A:Option Addr}{tv:Value}{h:Nat}{S:HS}{trips':List Tr}{L':HK->List Wt}{l':List Rid}{A':Option Addr}{n' k':Nat}{S':HS}{q:Nat}{w:World}(hq:w.heap.size<=q)(hA:∀ b off,A'=some ⟨b,off,none⟩->b≠q)(hx:¬ Xh S' h q)(ht:∀ p,tv.ownBlock=some p->p≠q):∀(L:List (Nat×Value))(w':World),ServS base A tv h S trips' L' l' A' n' k' S' w w'->ServS base A tv h S trips' L' l' A' n' k' S' w (L.foldl (fun v x=>v.setCell ⟨q,x.1,none⟩ x.2) w')
 |[],_,H=>H
 |x::L,w',H=>ServS.sets hq hA hx ht L _ (H.set x.1 x.2 hq hA hx ht)
def Gz(s:Sc)(I f T:Int)(c:Cr)(l:List Rid)(trips:List Tr)(base:Nat)(A:Option Addr)(tv:Value)(h:Nat)(S:HS)(w:World)(e:Ending)(w':World):Prop:=
 ∃(D:Int)(c':Cr)(l':List Rid)(trips':List Tr)(L':HK->List Wt)(A':Option Addr)(n' k':Nat)(S':HS)(gone:Bool),e=.returned (.tuple #[c'.v A' n' k',.bool gone])/\-1<=D/\D<=1/\SvRel s I f T D c l trips S.L c' l' trips' L'/\ServS base A tv h S trips' L' l' A' n' k' S' w w'
abbrev d6(s:Sc)(sA:Option Addr)(sn sk h:Nat)(cv tv:Value)(T:Int):List Value:=[O J s.fl,O J s.gap,O J s.cars,O J s.cap,O J s.opn,O J s.dw,O J s.cl,O J s.tr,.slice sA sn sk,O J s.disp,O J s.hor,O J s.bins,O J s.width,.pointer (some ⟨h,0,none⟩),cv,tv,O J T]
def Wx(wb h:Nat)(S:HS)(cv tv:Value)(k:Nat):Prop:=k=wb\/Xh S h k\/cv.ownBlock=some k\/tv.ownBlock=some k
def RBk(L:List Ca)(k:Nat):Prop:=∃ x∈L,∃off,x.A=some ⟨k,off,none⟩
structure Wd(base:Nat)(s:Sc)(sA:Option Addr)(sn sk wb h:Nat)(w:World)(S:HS)(cv tv:Value)(L:List Ca)(trips:List Tr)(T:Int):Prop where
 bx:Bx w wb (d6 s sA sn sk h cv tv T)
 wl:base<=wb
 hl:Hl w h S
 hb:∀ k,Xh S h k->base<=k
 cr:Own w base 265 6 QW cv L
 ri:∀ x∈L,Rds w w.heap.size x.A x.n x.l/\x.n<=x.k
 tr:Own w base 87 7 kN tv trips
 s1:¬ Xh S h wb
 s2:∀ p,cv.ownBlock=some p->p≠wb/\¬ Xh S h p/\tv.ownBlock≠some p
 s3:∀ p,tv.ownBlock=some p->p≠wb/\¬ Xh S h p
 s4:∀ k,RBk L k->base<=k/\k<w.heap.size/\¬ Wx wb h S cv tv k
structure WdN(base:Nat)(s:Sc)(sA:Option Addr)(sn sk wb h:Nat)(w:World)(S:HS)(cv tv:Value)(L:List Ca)(w':World)(S':HS)(cv' tv':Value)(L':List Ca)(trips':List Tr)(T':Int):Prop where
 wd:Wd base s sA sn sk wb h w' S' cv' tv' L' trips' T'
 but:But (Wx wb h S cv tv) w w'
 x:∀ k,k<w.heap.size->Wx wb h S' cv' tv' k->Wx wb h S cv tv k
 r:∀ k,k<w.heap.size->RBk L' k->RBk L k
section
variable{base:Nat}{s:Sc}{sA:Option Addr}{sn sk wb h:Nat}{w w1 w':World}{S S1 S':HS}{cv cv1 cv' tv tv1 tv':Value}{L L1 L':List Ca}{trips trips1 trips':List Tr}{T T1 T':Int}
theorem HB.Own.lt{α:Type}{w:World}{base:Nat}{e:TypeId}{sz:Nat}{f:α->List Value}{v:Value}{l:List α}(h:Own w base e sz f v l){k:Nat}(hk:v.ownBlock=some k):base<=k/\k<w.heap.size:=h.row.lt k hk
theorem Wd.xlt(H:Wd base s sA sn sk wb h w S cv tv L trips T){k:Nat}(hk:Wx wb h S cv tv k):base<=k/\k<w.heap.size:=by
 rcases hk with rfl|hk|hk|hk
 ·exact⟨H.wl,H.bx.lt (by simp)⟩
 ·exact⟨H.hb k hk,H.hl.xlt hk⟩
 ·exact H.cr.lt hk
 ·exact H.tr.lt hk
theorem HB.Rds.but{w w':World}{X:Nat->Prop}{A:Option Addr}{n:Nat}{l:List Rid}(h:Rds w w.heap.size A n l)(hb:But X w w')(hx:∀ b off,A=some ⟨b,off,none⟩->¬ X b):Rds w' w'.heap.size A n l:=
 ⟨(h.1.but hb fi hx).mono hb.size,h.2⟩
theorem Wd.but_{X:Nat->Prop}(H:Wd base s sA sn sk wb h w S cv tv L trips T)(hb:But X w w')(hx:∀ k,Wx wb h S cv tv k->¬ X k)(hr:∀ k,RBk L k->¬ X k):Wd base s sA sn sk wb h w' S cv tv L trips T where
 bx:=H.bx.but hb (H.bx.lt (by simp)) (hx _ (.inl rfl))
 wl:=H.wl
 hl:=H.hl.but hb (fun k hk=>hx k (.inr (.inl hk)))
 hb:=H.hb
 cr:=H.cr.but hb (fun k hk=>hx k (.inr (.inr (.inl hk))))
 ri:=fun x hxL=>⟨HB.Rds.but (H.ri x hxL).1 hb (fun b off e=>hr b ⟨x,hxL,off,e⟩),(H.ri x hxL).2⟩
 tr:=H.tr.but hb (fun k hk=>hx k (.inr (.inr (.inr hk))))
 s1:=H.s1
 s2:=H.s2
 s3:=H.s3
 s4:=fun k hk=>⟨(H.s4 k hk).1,Nat.lt_of_lt_of_le (H.s4 k hk).2.1 hb.size,(H.s4 k hk).2.2⟩
theorem Wd.below(H:Wd base s sA sn sk wb h w S cv tv L trips T)(hb:Below w.heap.size w w'):Wd base s sA sn sk wb h w' S cv tv L trips T:=
 H.but_ (X:=fun _=>False) (But.of_below hb) (fun _ _ h=>h) (fun _ _ h=>h)
theorem WdN.refl(H:Wd base s sA sn sk wb h w S cv tv L trips T)(hb:Below w.heap.size w w'):WdN base s sA sn sk wb h w S cv tv L w' S cv tv L trips T:=
 ⟨H.below hb,But.of_below hb,fun _ _ h=>h,fun _ _ h=>h⟩
theorem WdN.trans(a:WdN base s sA sn sk wb h w S cv tv L w1 S1 cv1 tv1 L1 trips1 T1)(b:WdN base s sA sn sk wb h w1 S1 cv1 tv1 L1 w' S' cv' tv' L' trips' T'):WdN base s sA sn sk wb h w S cv tv L w' S' cv' tv' L' trips' T':=
 ⟨b.wd,a.but.trans b.but (fun i hi hx=>a.x i hi hx),fun k hk hx=>a.x k hk (b.x k (Nat.lt_of_lt_of_le hk a.but.size) hx),fun k hk hr=>a.r k hk (b.r k (Nat.lt_of_lt_of_le hk a.but.size) hr)⟩
theorem WdN.below(a:WdN base s sA sn sk wb h w S cv tv L w1 S1 cv1 tv1 L1 trips1 T1)(hb:Below w1.heap.size w1 w'):WdN base s sA sn sk wb h w S cv tv L w' S1 cv1 tv1 L1 trips1 T1:=
 a.trans (WdN.refl a.wd hb)
theorem RBk.set{i:Nat}{x:Ca}{k:Nat}(h:RBk (L.set i x) k):RBk L k\/∃ off,x.A=some ⟨k,off,none⟩:=by
 obtain⟨y,hy,off,e⟩:=h;obtain⟨j,hj⟩:=List.getElem?_of_mem hy;rcases zx hj with⟨-,rfl,-⟩|⟨-,hj⟩
 ·exact .inr ⟨off,e⟩
 ·exact .inl ⟨y,List.mem_of_getElem? hj,off,e⟩
def Xt(w:World)(g o:Nat)(x:Ca):World:=(((((w.setCell ⟨g,o+0,none⟩ (O J x.c.pos)).setCell ⟨g,o+1,none⟩ (O J x.c.dir)).setCell ⟨g,o+2,none⟩ (O J x.c.mode)).setCell ⟨g,o+3,none⟩ (O J x.c.left)).setCell ⟨g,o+4,none⟩ (.bool x.c.wt)).setCell ⟨g,o+5,none⟩ (.slice x.A x.n x.k)
theorem zh(x:Ca):(QW x).length=6:=rfl
theorem Own.car6{g n c i:Nat}{x y:Ca}(H:Own w base 265 6 QW (.slice (some ⟨g,0,none⟩) n c) L)(hn:L.length=n)(hi:L[i]?=some x):Own (Xt w g (i*6) y) base 265 6 QW (.slice (some ⟨g,0,none⟩) n c) (L.set i y)/\But (fun q=>q=g) w (Xt w g (i*6) y):=by
 have hlt:=(List.getElem?_eq_some_iff.1 hi).1;have step:∀{w1:World}{z z':Ca}(j:Nat)(u:Value),Own w1 base 265 6 QW (.slice (some ⟨g,0,none⟩) n c) (L.set i z)->QW z'=(QW z).set j u->j<6->Own (w1.setCell ⟨g,i*6+j,none⟩ u) base 265 6 QW (.slice (some ⟨g,0,none⟩) n c) (L.set i z'):=by
  intro w1 z z' j u h1 h2 h3;have:=(h1.storeF zh (by rw[List.length_set];exact hn) (z:=i) (j:=j) (x:=z) (x':=z') (u:=u) (by rw[List.getElem?_set];simp[hlt]) h2 h3).1
  rwa [List.set_set]at this
 have h0:Own w base 265 6 QW (.slice (some ⟨g,0,none⟩) n c) (L.set i x):=by rw[Ys hi];exact H
 have a0:=step (z':={x with c:={x.c with pos:=y.c.pos}}) 0 (O J y.c.pos) h0 rfl (by omega);have a1:=step (z':={x with c:={x.c with pos:=y.c.pos,dir:=y.c.dir}}) 1 (O J y.c.dir) a0 rfl (by omega);have a2:=step (z':={x with c:={x.c with pos:=y.c.pos,dir:=y.c.dir,mode:=y.c.mode}}) 2 (O J y.c.mode) a1 rfl (by omega);have a3:=step (z':={x with c:={x.c with pos:=y.c.pos,dir:=y.c.dir,mode:=y.c.mode,left:=y.c.left}}) 3 (O J y.c.left) a2 rfl (by omega);have a4:=step (z':={x with c:=y.c}) 4 (.bool y.c.wt) a3 rfl (by omega);have a5:=step (z':=y) 5 (.slice y.A y.n y.k) a4 rfl (by omega);exact⟨a5,(((((HB.But.one fh).at1 rfl _ _).at1 rfl _ _).at1 rfl _ _).at1 rfl _ _).at1 rfl _ _⟩
end
theorem kW{B:Nat}{w W:World}{q:Nat}(h:Below B w W)(hq:B<=q)(u0 u1 u2 u3 u4 u5:Value):Below B w ((((((W.setCell ⟨q,0,none⟩ u0).setCell ⟨q,1,none⟩ u1).setCell ⟨q,2,none⟩ u2).setCell ⟨q,3,none⟩ u3).setCell ⟨q,4,none⟩ u4).setCell ⟨q,5,none⟩ u5):=
 (((((h.setCell (p:=⟨q,0,none⟩) hq u0).setCell (p:=⟨q,1,none⟩) hq u1).setCell (p:=⟨q,2,none⟩) hq u2).setCell (p:=⟨q,3,none⟩) hq u3).setCell (p:=⟨q,4,none⟩) hq u4).setCell (p:=⟨q,5,none⟩) hq u5
theorem OutP.yes{base cb:Nat}{c:Cr}{l:List Rid}{f T:Int}{tv:Value}{trips:List Tr}{w w':World}{e:Ending}(h:OutP base cb c l f T tv trips w e w')(hx:∃ r∈l,r.to_=f):∃(j:Nat)(r:Rid)(t:Tr)(A':Option Addr)(n' k':Nat),e=.returned (.bool true)/\l[j]?=some r/\r.to_=f/\trips[r.id.toNat]?=some t/\Own w' w.heap.size 401 2 jS (.slice A' n' k') (l.take j++l.drop (j+1))/\Bx w' cb (c.lv (.slice A' n' k'))/\
  Own w' base 87 7 kN tv (trips.set r.id.toNat {t with al:=T})/\But (fun q=>q=cb\/tv.ownBlock=some q) w w':=by
 rcases h with⟨-,h,-⟩|h
 ·obtain⟨r,hr,e⟩:=hx;exact absurd e (h r hr)
 ·exact h
theorem OutP.no{base cb:Nat}{c:Cr}{l:List Rid}{f T:Int}{tv:Value}{trips:List Tr}{w w':World}{e:Ending}(h:OutP base cb c l f T tv trips w e w')(hx:∀ r∈l,r.to_≠f):e=.returned (.bool false)/\Below w.heap.size w w':=by
 rcases h with⟨h1,-,h2⟩|⟨j,r,t,A',n',k',-,h1,h2,-⟩
 ·exact⟨h1,h2⟩
 ·exact absurd h2 (hx r (List.mem_of_getElem? h1))
theorem InP.no{base cb:Nat}{s:Sc}{c:Cr}{l:List Rid}{I f T:Int}{tv:Value}{trips:List Tr}{h:Nat}{S:HS}{w w':World}{e:Ending}(H:InP base cb s c l I f T tv trips h S w e w')(hx:c.dir=0\/s.cap<=(l.length:Int)\/S.L (zL s I f c.dir)=[]):e=.returned (.tuple #[.bool false,.bool false])/\Below w.heap.size w w':=by
 rcases H with⟨h1,-,h2⟩|⟨x,tl,t,A',n',k',S',gone,-,h1,h2,h3,-⟩
 ·exact⟨h1,h2⟩
 ·rcases hx with hx|hx|hx
  ·exact absurd hx h1
  ·omega
  ·rw[h3]at hx;cases hx
theorem InP.yes{base cb:Nat}{s:Sc}{c:Cr}{l:List Rid}{I f T:Int}{tv:Value}{trips:List Tr}{h:Nat}{S:HS}{w w':World}{e:Ending}(H:InP base cb s c l I f T tv trips h S w e w')(hx:¬ (c.dir=0\/s.cap<=(l.length:Int)\/S.L (zL s I f c.dir)=[])):
  ∃(x:Wt)(tl:List Wt)(t:Tr)(A':Option Addr)(n' k':Nat)(S':HS)(gone:Bool),e=.returned (.tuple #[.bool true,.bool gone])/\c.dir≠0/\(l.length:Int)<s.cap/\S.L (zL s I f c.dir)=x::tl/\trips[x.id.toNat]?=some t/\
  Own w' w.heap.size 401 2 jS (.slice A' n' k') (l++[⟨x.id,x.to_⟩])/\Bx w' cb (c.lv (.slice A' n' k'))/\Own w' base 87 7 kN tv (trips.set x.id.toNat {t with car:=I,bo:=T})/\
  HallTo w h S w' S' (qf S.L (zL s I f c.dir) tl)/\But (fun q=>q=cb\/tv.ownBlock=some q\/Xh S h q) w w'/\∀ p,(Value.slice A' n' k').ownBlock=some p->¬ Xh S' h p:=by
 rcases H with⟨-,h1,-⟩|H
 ·exact absurd h1 hx
 ·exact H
theorem ServS.mk0{base b3:Nat}{A:Option Addr}{tv:Value}{h:Nat}{S:HS}{trips':List Tr}{L':HK->List Wt}{l':List Rid}{A':Option Addr}{n' k':Nat}{S':HS}{w w':World}(hO:Own w' b3 401 2 jS (.slice A' n' k') l')(hb:w.heap.size<=b3)(hx:∀ p,(Value.slice A' n' k').ownBlock=some p->¬ Xh S' h p)(ht:Own w' base 87 7 kN tv trips')(hh:HallTo w h S w' S' L')(but:But (fun q=>tv.ownBlock=some q\/Xh S h q) w w'):ServS base A tv h S trips' L' l' A' n' k' S' w w':=by
 obtain⟨A2,c2,hv,hle,hrd⟩:=hO.shape;simp only[Value.slice.injEq]at hv;obtain⟨rfl,rfl,rfl⟩:=hv;exact⟨⟨hrd,rfl⟩,hle,fun b off e=>⟨.inl (Nat.le_trans hb (hO.row.lt b (by rw[e];rfl)).1),hx b (by rw[e];rfl),(hO.row.lt b (by rw[e];rfl)).2⟩,ht,hh,but⟩
theorem ServS.drew{base:Nat}{A:Option Addr}{tv:Value}{h:Nat}{S:HS}{trips':List Tr}{L':HK->List Wt}{l':List Rid}{A':Option Addr}{n' k':Nat}{S':HS}{w w':World}(H:ServS base A tv h S trips' L' l' A' n' k' S' w w'):ServS base A tv h S trips' L' l' A' n' k' S' w w'.drew:=
 ⟨H.r,H.k,H.rb,H.t.drew,⟨H.hh.hl.below fh.drew,H.hh.x,H.hh.L,H.hh.nw,H.hh.nc⟩,H.but.then_ fh.drew⟩
theorem qj{Q:World->Prop}{w W:World}(S:World->Prop)(hS:S W)(hb:Below w.heap.size w W)(h:∀ W':World,S W'->Below w.heap.size w W'->Q W'):Q W:=h W hS hb
theorem ServS.from_{base:Nat}{A:Option Addr}{tv:Value}{h:Nat}{S:HS}{trips':List Tr}{L':HK->List Wt}{l':List Rid}{A':Option Addr}{n' k':Nat}{S':HS}{w V w':World}(hb:Below w.heap.size w V)(H:ServS base A tv h S trips' L' l' A' n' k' S' V w'):ServS base A tv h S trips' L' l' A' n' k' S' w w':=
 ⟨H.r,H.k,fun b off e=>⟨(H.rb b off e).1.imp (Nat.le_trans hb.size) id,(H.rb b off e).2⟩,H.t,⟨H.hh.hl,fun k hk hx=>H.hh.x k (Nat.lt_of_lt_of_le hk hb.size) hx,H.hh.L,H.hh.nw,H.hh.nc⟩,(But.of_below hb).trans H.but (fun _ _ h=>h)⟩
theorem kx{Q:World->Prop}{W:World}(S:World->Prop)(hS:S W)(h:∀ W':World,S W'->Q W'):Q W:=h W hS
theorem KP{base:Nat}{s:Sc}{sA:Option Addr}{sn sk wb h:Nat}{w V w1:World}{S S':HS}{tv:Value}{L:List Ca}{trips trips':List Tr}{T:Int}{g n ck i:Nat}{x:Ca}{c':Cr}{l':List Rid}{L':HK->List Wt}{A':Option Addr}{n' k':Nat}
  (H:Wd base s sA sn sk wb h w S (.slice (some ⟨g,0,none⟩) n ck) tv L trips T)(hn:L.length=n)(hi:L[i]?=some x)(hb:Below w.heap.size w V)(HS:ServS base x.A tv h S trips' L' l' A' n' k' S' V w1):
  WdN base s sA sn sk wb h w S (.slice (some ⟨g,0,none⟩) n ck) tv L (Xt w1 g (i*6) ⟨c',A',n',k',l'⟩) S' (.slice (some ⟨g,0,none⟩) n ck) tv (L.set i ⟨c',A',n',k',l'⟩) trips' T:=by
 have hz:=hb.size;have hg:(Value.slice (some ⟨g,0,none⟩) n ck).ownBlock=some g:=rfl;have hs2:=H.s2 g hg;have hgl:=(H.cr.lt hg).2;have hX:∀ k,k<w.heap.size->Xh S' h k->Xh S h k:=fun k hk hx=>HS.hh.x k (by omega) hx
 have hwl:=H.bx.lt (by simp);have hbut:But (fun q=>tv.ownBlock=some q\/Xh S h q) w w1:=(But.of_below hb).trans HS.but (fun _ _ h=>h);have hz1:=HS.but.size;have hcr:=H.cr.but hbut (fun p hp hx=>by
  have:=H.s2 p hp;exact hx.elim this.2.2 this.2.1)
 have h6:=Own.car6 (y:=⟨c',A',n',k',l'⟩) hcr hn hi;have hb2:But (fun q=>tv.ownBlock=some q\/Xh S h q\/q=g) w (Xt w1 g (i*6) ⟨c',A',n',k',l'⟩):=(hbut.mono (Y:=fun q=>tv.ownBlock=some q\/Xh S h q\/q=g) (fun _ _ h=>h.elim .inl (fun h=>.inr (.inl h)))).trans h6.2 (fun _ _ e=>.inr (.inr e));have hgx:¬ Xh S' h g:=fun hx=>hs2.2.1 (hX g hgl hx)
 have hrb:∀ k,RBk (L.set i ⟨c',A',n',k',l'⟩) k->RBk L k\/(V.heap.size<=k/\¬ Xh S' h k/\k<w1.heap.size):=fun k hk=>by
  rcases hk.set with h1|⟨off,e⟩
  ·exact .inl h1
  ·obtain⟨h2,h3,h4⟩:=HS.rb k off e;rcases h2 with h2|⟨o,h2⟩
   ·exact .inr ⟨h2,h3,h4⟩
   ·exact .inl ⟨x,List.mem_of_getElem? hi,o,h2⟩
 have hsz:w1.heap.size<=(Xt w1 g (i*6) ⟨c',A',n',k',l'⟩).heap.size:=h6.2.size;refine⟨⟨H.bx.but hb2 hwl ?_,H.wl,HS.hh.hl.but h6.2 (fun k hk e=>hgx (e▸hk)),?_,h6.1,?_,HS.t.but h6.2 (fun p hp e=>hs2.2.2 (e▸hp)),?_,?_,?_,?_⟩,?_,?_,?_⟩
 ·intro hx;rcases hx with hx|hx|hx
  ·exact(H.s3 wb hx).1 rfl
  ·exact H.s1 hx
  ·exact hs2.1 hx.symm
 ·intro k hk;rcases Nat.lt_or_ge k w.heap.size with h1|h1
  ·exact H.hb k (hX k h1 hk)
  ·have:=H.wl;omega
 ·intro z hz';obtain⟨j,hj⟩:=List.getElem?_of_mem hz';rcases zx hj with⟨-,rfl,-⟩|⟨-,hj⟩
  ·exact⟨HB.Rds.but HS.r h6.2 (fun b off e hbg=>by
    obtain⟨h2,h3,h4⟩:=HS.rb b off e;rcases h2 with h2|⟨o,h2⟩
    ·omega
    ·exact(H.s4 b ⟨x,List.mem_of_getElem? hi,o,h2⟩).2.2 (.inr (.inr (.inl (by rw[hbg];rfl))))),HS.k⟩
  ·have hm:=List.mem_of_getElem? hj;exact⟨HB.Rds.but (H.ri z hm).1 hb2 (fun b off e hx=>(H.s4 b ⟨z,hm,off,e⟩).2.2 (by
    rcases hx with hx|hx|hx
    ·exact .inr (.inr (.inr hx))
    ·exact .inr (.inl hx)
    ·exact .inr (.inr (.inl (by rw[hx];rfl))))),(H.ri z hm).2⟩
 ·exact fun hx=>H.s1 (hX _ hwl hx)
 ·intro p hp;have h1:=H.s2 p hp;exact⟨h1.1,fun hx=>h1.2.1 (hX p (H.cr.lt hp).2 hx),h1.2.2⟩
 ·intro p hp;have h1:=H.s3 p hp;exact⟨h1.1,fun hx=>h1.2 (hX p (H.tr.lt hp).2 hx)⟩
 ·intro k hk;rcases hrb k hk with h1|⟨h1,h2,h3⟩
  ·have h4:=H.s4 k h1;refine⟨h4.1,by omega,fun hx=>h4.2.2 ?_⟩;rcases hx with hx|hx|hx|hx
   ·exact .inl hx
   ·exact .inr (.inl (hX k h4.2.1 hx))
   ·exact .inr (.inr (.inl hx))
   ·exact .inr (.inr (.inr hx))
  ·refine⟨by have:=H.wl;omega,by omega,fun hx=>?_⟩;rcases hx with hx|hx|hx|hx
   ·omega
   ·exact h2 hx
   ·have:=(H.cr.lt hx).2;omega
   ·have:=(H.tr.lt hx).2;omega
 ·exact hb2.mono (fun q _ hx=>by
   rcases hx with hx|hx|hx
   ·exact .inr (.inr (.inr hx))
   ·exact .inr (.inl hx)
   ·exact .inr (.inr (.inl (by rw[hx];rfl))))
 ·intro k hk hx;rcases hx with hx|hx|hx|hx
  ·exact .inl hx
  ·exact .inr (.inl (hX k hk hx))
  ·exact .inr (.inr (.inl hx))
  ·exact .inr (.inr (.inr hx))
 ·intro k hk hr;rcases hrb k hr with h1|⟨h1,h2,h3⟩
  ·exact h1
  ·omega
def CarR(s:Sc)(I T:Int)(c:Cr)(l:List Rid)(trips:List Tr)(L:HK->List Wt)(c':Cr)(l':List Rid)(trips':List Tr)(L':HK->List Wt):Prop:=
 ((c.mode=0\/c.mode=1)/\MStep s.gap s.opn c c'/\l'=l/\trips'=trips/\L'=L)\/
 (c.mode=4/\c'=(if c.left=1 then{c with left:=0,mode:=0}else{c with left:=c.left-1})/\l'=l/\trips'=trips/\L'=L)\/
 ((c.mode=2\/c.mode=3)/\c.left≠1/\c'={c with left:=c.left-1}/\l'=l/\trips'=trips/\L'=L)\/
 ((c.mode=2\/c.mode=3)/\c.left=1/\∃ D,-1<=D/\D<=1/\SvRel s I (c.pos/s.gap) T D {c with left:=0} l trips L c' l' trips' L')
def Uw(base:Nat)(s:Sc)(sA:Option Addr)(sn sk wb h:Nat)(w:World)(S:HS)(cv tv:Value)(L:List Ca)(trips:List Tr)(T:Int)(i:Nat)(x:Ca)(e:Ending)(w':World):Prop:=
 ∃(gone:Bool)(y:Ca)(S':HS)(trips':List Tr),e=.returned (.bool gone)/\WdN base s sA sn sk wb h w S cv tv L w' S' cv tv (L.set i y) trips' T/\S'.nw<=S.nw+1/\S'.nc<=S.nc+1/\CarR s i T x.c x.l trips S.L y.c y.l trips' S'.L
theorem ky{base:Nat}{s:Sc}{sA:Option Addr}{sn sk wb h:Nat}{w V:World}{S:HS}{tv:Value}{L:List Ca}{trips:List Tr}{T:Int}{g n ck i:Nat}{x:Ca}{c':Cr}
  (H:Wd base s sA sn sk wb h w S (.slice (some ⟨g,0,none⟩) n ck) tv L trips T)(hn:L.length=n)(hi:L[i]?=some x)(hb:Below w.heap.size w V):
  WdN base s sA sn sk wb h w S (.slice (some ⟨g,0,none⟩) n ck) tv L (Xt V g (i*6) {x with c:=c'}) S (.slice (some ⟨g,0,none⟩) n ck) tv (L.set i {x with c:=c'}) trips T:=by
 have hx:=List.mem_of_getElem? hi;have h1:=H.ri x hx;have HS:ServS base x.A tv h S trips S.L x.l x.A x.n x.k S V V:=⟨⟨(h1.1.1.below hb).mono hb.size,h1.1.2⟩,h1.2,fun b off e=>by
  have h2:=H.s4 b ⟨x,hx,off,e⟩;exact⟨.inr ⟨off,e⟩,fun h=>h2.2.2 (.inr (.inl h)),Nat.lt_of_lt_of_le h2.2.1 hb.size⟩,H.tr.below hb,⟨H.hl.below hb,fun _ _ h=>h,rfl,by omega,by omega⟩,But.refl _ _⟩
 exact KP (c':=c') H hn hi hb HS
end
end Go.Proofs.YtdeogmbfgkepeaaGreatDoor
