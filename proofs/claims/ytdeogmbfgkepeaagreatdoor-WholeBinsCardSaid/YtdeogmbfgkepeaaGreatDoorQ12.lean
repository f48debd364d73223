/- Contracts that WholeBins needs. Each tells its conditions. -/
import Derived.Deep.AppendLies
import Derived.Deep.RegionLaw
import Derived.Test.YtdeogmbfgkepeaaGreatDoorQ11
set_option linter.unusedVariables false
set_option linter.unusedSimpArgs false
set_option maxRecDepth 100000
set_option maxHeartbeats 64000000
namespace Go.Proofs.YtdeogmbfgkepeaaGreatDoor
open Go.Proofs.Tryz
open Go.Value renaming int->O
open Go.IntKind renaming i64->J
section
open Go.RowKit HB HeapP
namespace HB
theorem Hp.parts{w:World}{p g:Nat}{L:List En}(h:Hp w p g L):∃ v,w.cell? ⟨p,2,none⟩=some v/\w.frozen? ⟨p,2,none⟩=false/\p<w.heap.size/\w.ownsRow 0 312 3 v L.length (L.flatMap ZT)/\(∀k,v.ownBlock=some k->k=g/\g≠p):=by
 obtain⟨v,h1,h2,h3,h4,h5⟩:=h;refine⟨v,h1,h2,h3,h4,fun k hk=>?_⟩;rcases h5 with⟨rfl,_⟩|⟨c,rfl,_,h8,_⟩
 ·simp[Value.ownBlock]at hk
 ·simp[Value.ownBlock]at hk;exact⟨hk.symm,h8⟩
theorem Hp.pushed{w w1:World}{p g g' n cap:Nat}{L:List En}{e:En}{v:Value}(hp:p<w.heap.size)(hc:w.cell? ⟨p,2,none⟩=some v)(hf:w.frozen? ⟨p,2,none⟩=false)(hv:∀ k,v.ownBlock=some k->k=g/\g≠p)(hn:L.length=n)
  (k1:w1.ownsRow 0 312 3 (.slice (some ⟨g',0,none⟩) (n+1) cap) (n+1) (L.flatMap ZT++ZT e))(k2:w.grownBy w1 v.ownBlock)(k3:v.ownBlock=some g'\/g'=w.heap.size)(k4:g'<w1.heap.size):
  Hp (w1.setCell ⟨p,2,none⟩ (.slice (some ⟨g',0,none⟩) (n+1) cap)) p g' (L++[e])/\Only p g w (w1.setCell ⟨p,2,none⟩ (.slice (some ⟨g',0,none⟩) (n+1) cap))/\(g'=g\/w.heap.size<=g')/\w1.cell? ⟨p,2,none⟩=some v/\w1.frozen? ⟨p,2,none⟩=false:=by
 have hgp:g'≠p:=by
  rcases k3 with k3|k3
  ·obtain⟨a,b⟩:=hv _ k3;omega
  ·omega
 have hblk:w1.heap[p]?=w.heap[p]?:=k2.block p hp (fun h=>by
  obtain⟨a,b⟩:=hv p h.symm;exact b a.symm)
 have hc1:w1.cell? ⟨p,2,none⟩=some v:=by rw[World.cell?_of_block (w:=w) (a:=⟨p,2,none⟩) hblk];exact hc
 have hf1:w1.frozen? ⟨p,2,none⟩=false:=by rw[World.frozen?_of_block (w:=w) (a:=⟨p,2,none⟩) hblk];exact hf
 have hlen:(L++[e]).length=n+1:=by simp[hn]
 refine⟨⟨_,World.cell?_setCell_same w1 _ _ hc1,?_,by simpa using Nat.lt_of_lt_of_le hp k2.size,?_,.inr ⟨cap,by rw[hlen],?_,hgp,by simpa using k4⟩⟩,?_,?_,hc1,hf1⟩
 ·rw[World.frozen?_setCell];exact hf1
 ·have:Own w1 0 312 3 ZT (.slice (some ⟨g',0,none⟩) (n+1) cap) (L++[e]):=by
   show w1.ownsRow _ _ _ _ (L++[e]).length ((L++[e]).flatMap ZT)
   rw[hlen];simpa using k1
  refine this.other fun b m c hh=>?_
  simp at hh;obtain⟨rfl,_⟩:=hh;exact Below.heap_setCell _ _ _ _ hgp
 ·rw[hlen];rcases k1.2 with⟨hh,_⟩|⟨_,cap',_,hh,_,_,h7,_⟩
  ·simp at hh
  ·simp at hh;omega
 ·refine Only.set (p:=p) (g:=g) ⟨k2.os,k2.tape,k2.output,k2.size,fun k hk h1 h2=>k2.block k hk fun h=>?_,fun _ o _=>vE hblk⟩ (.inl rfl) _;obtain⟨a,b⟩:=hv k h.symm;exact h2 a
 ·rcases k3 with k3|k3
  ·exact .inl (hv _ k3).1
  ·exact .inr (Nat.le_of_eq k3.symm)
end HB
theorem ZW(p g n:Nat)(L:List En)(a:En)(w:World)(h:Hp w p g L)(hh:jt L)(hl:L.length=n)(hn:n<=1000000):
  Calls prog 179 #[.pointer (some ⟨p,2,none⟩),.agg #[O J a.t,O J a.k,O J a.i]] w fun e w'=>e=.returned (.tuple #[])/\∃ g' L',Hp w' p g' L'/\jt L'/\L'.Perm (a::L)/\Only p g w w'/\(g'=g\/w.heap.size<=g'):=by
 have HH:=ze h;have HI:=ze hh;have Hl:=ze hl;have hpl:p<w.heap.size:=by obtain⟨_,_,_,h3,_⟩:=h;exact h3
 clear h hh hl;go_enter func179,ntmps179;go_upto_region 1 with fail;have HB0:=ze ((Below.refl w.heap.size w).alloc fi (.cells #[O J a.t,O J a.k,O J a.i] 312));have HR:=ze (Trio.new w 312 (O J a.t) (O J a.k) (O J a.i));have HP:=ze (HH.o.below HB0.o);generalize hr:w.heap.size=r at*;generalize w.alloc (.cells #[O J a.t,O J a.k,O J a.i] 312)=w0 at*;obtain⟨v,cp,fp,hp0,hown,hv⟩:=HP.o.parts;rw[Hl.o]at hown;obtain⟨r0,r1,r2,f0,f1,f2,hr0⟩:=HR.o;have HO:=ze hown;have HV:=ze hv;have CP:=ze cp;have FP:=ze fp;clear hown hv;obtain⟨inf,HINF⟩:∃ i,Hz (prog.info? 312=some i/\i.zero=some (.agg #[O J 0,O J 0,O J 0])/\i.size=3/\i.bytes=24):=by
  obtain⟨i,h1,h2,h3,h4⟩:=info_parts Ent.info;exact⟨i,h1,h2,h3,h4⟩
 go_cut [] (fun wx=>∃ g',Hp wx p g' (L++[a])/\Only p g w0 wx/\(g'=g\/r<=g'))
 case first=>
  go_region_law (first|(refine step_append_lies _ rfl _ _ 252 rfl 0 312 inf _ 3 24 underlying252 HINF.o.1 HINF.o.2.1 HINF.o.2.2.1 HINF.o.2.2.2 rfl (by omega) v n (L.flatMap ZT) rfl ((HO.o.drew).alloc _) ⟨_,0,none⟩ 1 1 (ZT a) rfl rfl ?_ (by simp[Value.oneCell']) (by omega) (by simp only[maxLen];omega) (by omega) (Nat.zero_le _) _ rfl ?_;(exact aq _ _ _ _ _ _ rfl);intro g' cap w1 k1 k2 k3 k4;have hb:=(Below.refl w0.heap.size w0).drew.alloc fi (.cells #[O J a.t,O J a.k,O J a.i] 312);obtain⟨j1,j2,j3,j4,j5⟩:=Hp.pushed (Nat.lt_of_lt_of_le hp0 hb.size) (zf hb CP.o) ((hb.frozen hp0).trans FP.o) HV.o Hl.o k1 k2 k3 k4;have J1:=ze j1;have J2:=ze ((Only.of_below hb).trans j2 (.inl rfl));clear k1 k2 j1 j2))
  all_goals(go_wp2_with fail;go_meet;exact⟨g',J1.o,J2.o,(by rcases j3 with j|j;exact .inl j;right;simp at j;omega)⟩)
 case rest=>
  obtain⟨g',hp1,ho1,hg1⟩:=hcut;have HG1:=ze hg1;have HO1:=ze ((Only.of_below (p:=p) (g:=g) (by rw[<-hr]at*;exact HB0.o)).trans ho1 (.inl rfl));have HU:=ze (Wy HI.o a);rw[Hl.o]at HU;have hl1:(L++[a]).length=n+1:=by simp[Hl.o]
  have HPM:=ze (show(L++[a]).Perm (a::L)from List.perm_append_comm (l₁:=L) (l₂:=[a]));have HP1:=ze hp1;obtain⟨c1,cp1,hc1,hgp1,_⟩:=hp1.at_ (by omega);rw[hl1]at cp1 hc1;have HL1:=ze hl1;clear HO HV CP FP HP HH HI HR HB0 cp fp r0 r1 r2 f0 f1 f2 hp1 ho1 hg1 hl1 HINF Hl hp0 hr0;generalize L++[a]=L1 at*;go_wp2_with fail
  go_loopw [4] (fun si wr=>∃(k:Nat)(L':List En),si=O J k/\k<=n/\Hp wr p g' L'/\Up L' k/\L'.Perm L1/\Only p g' wc wr) (fun si _=>(intOf si).toNat)
  case atStart=>exact⟨n,L1,by go_num,fi,HP1.o,HU.o,List.Perm.refl _,Only.refl _ _ _⟩
  case round=>
   obtain⟨k,L',rfl,hk,hp',hu',hpm,hon⟩:=hrel;have hl':=hpm.length_eq.trans HL1.o;have HL:=ze hl';have HP:=ze hp';have HUU:=ze hu';have HM:=ze hpm;have HON:=ze hon;clear hu' hpm hon hl' cp1 hc1 hgp1;by_cases hk0:k=0
   ·subst hk0;go_wp2_with fail;go_quiet(fail);go_wp2_with fail;go_end0;have hbn:∀ q,fj wr (wr.drewN q):=fun q=>⟨rfl,rfl,rfl,fi,fun _ _=>rfl⟩
    refine⟨rfl,g',L',HP.o.below (hbn _),Wz HUU.o (.inl rfl),HM.o.trans HPM.o,(HO1.o.trans HON.o ?_).then_ (hbn _),?_⟩
    ·rw[hr];exact HG1.o
    ·rw[hr];exact HG1.o
   ·obtain⟨cc,cp,hcc,hgp,hown⟩:=hp'.at_ (by rw[HL.o];omega);rw[HL.o]at cp hcc hown;obtain⟨j,hj⟩:∃ j,j=(k-1)/2:=⟨_,rfl⟩;obtain⟨x,hx⟩:∃ x,L'[k]?=some x:=⟨_,List.getElem?_eq_getElem (by rw[HL.o];omega)⟩;obtain⟨y,hy⟩:∃ y,L'[j]?=some y:=⟨_,List.getElem?_eq_getElem (by rw[HL.o];omega)⟩;obtain⟨x0,x1,x2,f0,f1,f2⟩:=hown.ent_at HL.o hx;obtain⟨y0,y1,y2,e0,e1,e2⟩:=hown.ent_at HL.o hy;have HX:=ze hx;have HY:=ze hy;have HJ:=ze hj;have HLS2:=ze (fun w=>ZU x y w);have q0:(0:Int)<(k:Int):=by omega
    have q0n:0<k:=by omega
    have q1:(k:Int)<(n:Int)+1:=by omega
    have q2:((k:Int)-1).tdiv 2=(j:Int):=by rw[Int.tdiv_eq_ediv_of_nonneg (by omega)];omega
    have q3:(j:Int)<(n:Int)+1:=by omega
    have hkj:¬ j=k:=by omega
    have hkj':¬ k=j:=by omega
    have q4:IntKind.i64.wrap ((k:Int)-1)=(k:Int)-1:=IntWalk.i64_in _ (by omega);have q5:IntKind.i64.wrap (j:Int)=(j:Int):=IntWalk.i64_in _ (by omega);clear hown hx hy hj hp';go_upto_region 3 with fail
    go_cut [41] (fun s wx=>s=.bool (lt x y)/\fj wr wx)
    case first=>
     go_region_held3 (fun w'=>w'.cell? ⟨p,2,none⟩=some (.slice (some ⟨g',0,none⟩) (n+1) cc)/\w'.cell? ⟨g',k*3,none⟩=some (O J x.t)/\w'.cell? ⟨g',k*3+1,none⟩=some (O J x.k)/\w'.cell? ⟨g',k*3+2,none⟩=some (O J x.i)/\w'.cell? ⟨g',j*3,none⟩=some (O J y.t)/\w'.cell? ⟨g',j*3+1,none⟩=some (O J y.k)/\w'.cell? ⟨g',j*3+2,none⟩=some (O J y.i)/\fj wr w')
      (first|(go_split_ands;exact⟨zf hb4 ‹_›,zf hb4 ‹_›,zf hb4 ‹_›,zf hb4 ‹_›,zf hb4 ‹_›,zf hb4 ‹_›,zf hb4 ‹_›,(‹fj wr _›).trans (hb4.mono (‹fj wr _›).size)⟩)|(exact⟨cp,x0,x1,x2,y0,y1,y2,fh.drew⟩))
      (first|(go_at_call 215;refine(HLS2.o _).mono ?_;rintro e w4 ⟨rfl,hb4⟩))
     all_goals(go_wp2_with fail;go_meet;exact⟨rfl,by go_split_ands;assumption⟩)
    case rest=>
     obtain⟨rfl,hbw⟩:=hcut;have HBW:=ze hbw;cases hlt:lt x y with
     |false=>
      have HLT:=ze hlt;clear hbw hlt cp x0 x1 x2 y0 y1 y2 f0 f1 f2 e0 e1 e2;go_wp2_with fail;go_end0;refine⟨rfl,g',L',HP.o.below HBW.o,Wz HUU.o (.inr ?_),HM.o.trans HPM.o,(HO1.o.trans HON.o ?_).then_ HBW.o,?_⟩
      ·intro x' y' hx' hy';rw[<-HJ.o,HY.o]at hy';rw[HX.o]at hx';injection hx' with hx';injection hy' with hy';subst hx';subst hy';exact HLT.o
      ·rw[hr];exact HG1.o
      ·rw[hr];exact HG1.o
     |true=>
      have HLT:=ze hlt;have HPX:=ze (HP.o.below hbw);have cp':=zf hbw cp;have x0':=zf hbw x0;have x1':=zf hbw x1;have x2':=zf hbw x2;have y0':=zf hbw y0;have y1':=zf hbw y1;have y2':=zf hbw y2;have hgl:=World.block_lt_of_cell? wr _ x0;have f0':=(hbw.frozen (p:=⟨g',k*3,none⟩) hgl).trans f0;have f1':=(hbw.frozen (p:=⟨g',k*3+1,none⟩) hgl).trans f1;have f2':=(hbw.frozen (p:=⟨g',k*3+2,none⟩) hgl).trans f2;have e0':=(hbw.frozen (p:=⟨g',j*3,none⟩) hgl).trans e0;have e1':=(hbw.frozen (p:=⟨g',j*3+1,none⟩) hgl).trans e1;have e2':=(hbw.frozen (p:=⟨g',j*3+2,none⟩) hgl).trans e2;clear hbw hlt cp x0 x1 x2 y0 y1 y2 f0 f1 f2 e0 e1 e2 hgl;have HSW:=ze (HPX.o.swap HX.o HY.o).drew;have HSO:=ze ((((((((Only.refl p g' wc).set (a:=⟨g',k*3,none⟩) (.inr ⟨rfl,hgp⟩) (O J y.t)).set (a:=⟨g',k*3+1,none⟩) (.inr ⟨rfl,hgp⟩) (O J y.k)).set (a:=⟨g',k*3+2,none⟩) (.inr ⟨rfl,hgp⟩) (O J y.i)).set (a:=⟨g',j*3,none⟩) (.inr ⟨rfl,hgp⟩) (O J x.t)).set (a:=⟨g',j*3+1,none⟩) (.inr ⟨rfl,hgp⟩) (O J x.k)).set (a:=⟨g',j*3+2,none⟩) (.inr ⟨rfl,hgp⟩) (O J x.i)).drew);go_wp2_with fail;go_region;go_wp2_with fail;go_roundw
      case rel=>exact⟨j,sw L' k j x y,rfl,by have:=HJ.o;omega,HSW.o,ap HUU.o q0n HJ.o HX.o HY.o HLT.o,(Y3 HX.o HY.o (by have:=HJ.o;omega)).trans HM.o,(HON.o.then_ HBW.o).trans HSO.o (.inl rfl)⟩
      case measure=>simp[intOf];have:=HJ.o;omega
namespace HeapP
def At(l:List En)(a:En)(k:Nat):Prop:=k<=l.length/\(∀x∈l.drop k,lt a x=true)/\(k=0\/∃ y,l[k-1]?=some y/\lt a y=false)
theorem At.srt{l:List En}{a:En}{k:Nat}(h:At l a k)(hs:Zo l):Zo (l.take k++a::l.drop k):=by
 refine an hs (fun x hx=>le_of_lt (h.2.1 x hx)) ?_;rcases h.2.2 with h0|⟨y,hy,hlt⟩
 ·subst h0;simp
 ·rcases Nat.eq_zero_or_pos k with h0|h0
  ·subst h0;simp
  ·exact Wv hs h0 hy hlt
end HeapP
namespace HeapP
structure Popped(l out:List En)(ok:Bool)(e:En)(L':List En):Prop where
 srt:Zo (out++(if ok then[e]else[]))
 le:∀ a∈out++(if ok then[e]else[]),∀x∈L',le a x
 perm:l.Perm (out++(if ok then[e]else[])++L')
 none:ok=false->L'=[]
theorem Popped.next{l out L' L2:List En}{e:En}(h:Popped l out true e L')(hh:jt L')(h0:L'.length=0->L2=[])(h1:0<L'.length->L'.Perm (zA L'::L2)):Popped l (out++[e]) (decide (0<L'.length)) (zA L') L2:=by
 have hs:=h.srt;have hl:=h.le;have hp:=h.perm;simp only[if_true]at hs hl hp;rcases Nat.eq_zero_or_pos L'.length with hz|hz
 ·have hd:decide (0<L'.length)=false:=by simp;exact List.eq_nil_of_length_eq_zero hz
  have hL:L'=[]:=List.eq_nil_of_length_eq_zero hz;rw[hd];refine⟨by simpa using hs,?_,?_,fun _=>h0 hz⟩
  ·rw[h0 hz];intro a _ x hx;simp at hx
  ·rw[h0 hz];rw[hL]at hp;simpa using hp
 ·have hd:decide (0<L'.length)=true:=by simpa using hz
  have hp2:=h1 hz;rw[hd];have hmem:∀ x∈L2,x∈L':=fun x hx=>hp2.mem_iff.2 (List.mem_cons_of_mem _ hx)
  have htop:zA L'∈L':=hp2.mem_iff.2 List.mem_cons_self;refine⟨?_,?_,?_,fun h=>(by cases h)⟩
  ·simp only[if_true];rw[Zo,List.pairwise_append];refine⟨hs,by simp,fun a ha b hb=>?_⟩;simp only[List.mem_singleton]at hb;subst hb;exact hl a ha _ htop
  ·simp only[if_true];intro a ha x hx;rcases List.mem_append.1 ha with ha|ha
   ·exact hl a ha x (hmem x hx)
   ·simp only[List.mem_singleton]at ha;subst ha;exact vO hh (ke hz) x (hmem x hx)
  ·simp only[if_true];refine hp.trans ?_;rw[List.append_assoc (out++[e])];exact hp2.append_left _
end HeapP
namespace HB
theorem Hp.pl{w:World}{p g:Nat}{L:List En}(h:Hp w p g L):p<w.heap.size:=by obtain⟨_,_,_,h3,_⟩:=h;exact h3
theorem Hp.grown{w w':World}{p g:Nat}{L:List En}{row:Option Nat}(h:Hp w p g L)(hg:w.grownBy w' row)(h1:some p≠row)(h2:some g≠row):Hp w' p g L:=
 h.kept hg.size (hg.block p (by obtain⟨_,_,_,h3,_⟩:=h;exact h3) h1) (hg.block g h.gl h2)
theorem Trio.grown{w w':World}{r:Nat}{x y z:Value}{row:Option Nat}(h:Trio w r x y z)(hg:w.grownBy w' row)(h1:some r≠row):Trio w' r x y z:=by
 have hb:=hg.block r h.lt h1;have hc:∀ j,w'.cell? ⟨r,j,none⟩=w.cell? ⟨r,j,none⟩:=fun j=>World.cell?_of_block (a:=⟨r,j,none⟩) hb
 have hf:∀ j,w'.frozen? ⟨r,j,none⟩=w.frozen? ⟨r,j,none⟩:=fun j=>World.frozen?_of_block (a:=⟨r,j,none⟩) hb
 exact⟨(hc 0).trans h.c0,(hc 1).trans h.c1,(hc 2).trans h.c2,(hf 0).trans h.f0,(hf 1).trans h.f1,(hf 2).trans h.f2,Nat.lt_of_lt_of_le h.lt hg.size⟩
theorem Own.only{α:Type}{f:α->List Value}{base sz p g:Nat}{e:TypeId}{v:Value}{l:List α}{w w':World}(h:Own w base e sz f v l)(ho:Only p g w w')(h1:∀ k,v.ownBlock=some k->k≠p/\k≠g):Own w' base e sz f v l:=by
 refine h.other fun b n c hv=>?_
 subst hv;have:=h1 b rfl;exact ho.block b (h.row.lt b rfl).2 this.1 this.2
end HB
namespace HB
theorem kg(w:World)(q:Nat)(x y z:Value):w.grownBy (((w.setCell ⟨q,0,none⟩ x).setCell ⟨q,1,none⟩ y).setCell ⟨q,2,none⟩ z) (some q):=
 ⟨rfl,rfl,rfl,by simp,fun k _ hk=>by
  have hne:k≠q:=fun h=>hk (by rw[h])
  rw[Below.heap_setCell _ _ _ _ hne,Below.heap_setCell _ _ _ _ hne,Below.heap_setCell _ _ _ _ hne]⟩
theorem Trio.stored{w:World}{q:Nat}{a b c:Value}(h:Trio w q a b c)(x y z:Value):Trio (((w.setCell ⟨q,0,none⟩ x).setCell ⟨q,1,none⟩ y).setCell ⟨q,2,none⟩ z) q x y z:=by
 have n01:(⟨q,0,none⟩:Addr)≠⟨q,1,none⟩:=by intro e;injection e with _ e _;cases e
 have n02:(⟨q,0,none⟩:Addr)≠⟨q,2,none⟩:=by intro e;injection e with _ e _;cases e
 have n12:(⟨q,1,none⟩:Addr)≠⟨q,2,none⟩:=by intro e;injection e with _ e _;cases e
 have a0:=World.cell?_setCell_same w _ x h.c0;have a1:(w.setCell ⟨q,0,none⟩ x).cell? ⟨q,1,none⟩=some b:=(World.cell?_setCell_other w _ _ _ n01).trans h.c1;have a2:(w.setCell ⟨q,0,none⟩ x).cell? ⟨q,2,none⟩=some c:=(World.cell?_setCell_other w _ _ _ n02).trans h.c2;have b0:=(World.cell?_setCell_other (w.setCell ⟨q,0,none⟩ x) ⟨q,1,none⟩ ⟨q,0,none⟩ y n01.symm).trans a0;have b1:=World.cell?_setCell_same (w.setCell ⟨q,0,none⟩ x) _ y a1;have b2:=(World.cell?_setCell_other (w.setCell ⟨q,0,none⟩ x) ⟨q,1,none⟩ ⟨q,2,none⟩ y n12).trans a2;refine⟨(World.cell?_setCell_other _ ⟨q,2,none⟩ ⟨q,0,none⟩ z n02.symm).trans b0,(World.cell?_setCell_other _ ⟨q,2,none⟩ ⟨q,1,none⟩ z n12.symm).trans b1,World.cell?_setCell_same _ _ z b2,?_,?_,?_,by simpa using h.lt⟩
 ·simp only[World.frozen?_setCell];exact h.f0
 ·simp only[World.frozen?_setCell];exact h.f1
 ·simp only[World.frozen?_setCell];exact h.f2
theorem Own.grown{α:Type}{f:α->List Value}{base sz:Nat}{e:TypeId}{v:Value}{l:List α}{w w':World}{row:Option Nat}(h:Own w base e sz f v l)(hg:w.grownBy w' row)(hne:v.ownBlock=none\/v.ownBlock≠row):Own w' base e sz f v l:=World.ownsRow.kept h hg hne
end HB
namespace HeapP
theorem Popped.first{l L1 L2:List En}(hm:L1.Perm l)(hh:jt L1)(h0:L1.length=0->L2=[])(h1:0<L1.length->L1.Perm (zA L1::L2)):Popped l [] (decide (0<L1.length)) (zA L1) L2:=by
 rcases Nat.eq_zero_or_pos L1.length with hz|hz
 ·have hL:L1=[]:=List.eq_nil_of_length_eq_zero hz;have hd:decide (0<L1.length)=false:=by simp;exact hL
  rw[hd,h0 hz];subst hL;exact⟨by simp[Zo],by simp,by simpa using hm.symm,fun _=>rfl⟩
 ·have hd:decide (0<L1.length)=true:=by simpa using hz
  have hp:=h1 hz;rw[hd];refine⟨by simp[Zo],?_,?_,fun h=>(by cases h)⟩
  ·simp only[if_true,List.nil_append,List.mem_singleton];intro a ha x hx;subst ha;exact vO hh (ke hz) x (hp.mem_iff.2 (List.mem_cons_of_mem _ hx))
  ·simp only[if_true,List.nil_append];exact hm.symm.trans hp
end HeapP
def di:Value->Nat
 |.slice _ n _=>n
 |_=>0
namespace HeapP
structure Gone(L0 out L':List En)(T:Int):Prop where
 srt:Zo out
 le:∀ a∈out,∀x∈L',le a x
 perm:L0.Perm (out++L')
 time:∀ a∈out,a.t<=T
theorem Gone.next{L0 out L' L2:List En}{T:Int}(h:Gone L0 out L' T)(hh:jt L')(hz:0<L'.length)(h1:L'.Perm (zA L'::L2))(ht:(zA L').t<=T):Gone L0 (out++[zA L']) L2 T:=by
 have htop:zA L'∈L':=h1.mem_iff.2 List.mem_cons_self;have hmem:∀ x∈L2,x∈L':=fun x hx=>h1.mem_iff.2 (List.mem_cons_of_mem _ hx)
 refine⟨?_,?_,?_,?_⟩
 ·rw[Zo,List.pairwise_append];refine⟨h.srt,by simp,fun a ha b hb=>?_⟩;simp only[List.mem_singleton]at hb;subst hb;exact h.le a ha _ htop
 ·intro a ha x hx;rcases List.mem_append.1 ha with ha|ha
  ·exact h.le a ha x (hmem x hx)
  ·simp only[List.mem_singleton]at ha;subst ha;exact vO hh (ke hz) x (hmem x hx)
 ·refine h.perm.trans ?_;rw[List.append_assoc];exact h1.append_left _
 ·intro a ha;rcases List.mem_append.1 ha with ha|ha
  ·exact h.time a ha
  ·simp only[List.mem_singleton]at ha;subst ha;exact ht
end HeapP
namespace HB
theorem Only.grown{p g:Nat}{w w1 w2:World}{row:Option Nat}(h:Only p g w w1)(hg:w1.grownBy w2 row)(hr:∀ k,row=some k->w.heap.size<=k):Only p g w w2:=
 ⟨hg.os.trans h.os,hg.tape.trans h.tape,hg.output.trans h.output,Nat.le_trans h.size hg.size,fun k hk h1 h2=>(hg.block k (by have:=h.size;omega) (fun hh=>by have:=hr k hh.symm;omega)).trans (h.block k hk h1 h2),
  fun hp o ho=>by
   have:=vE (o:=o) (hg.block p (Nat.lt_of_lt_of_le hp h.size) (fun hh=>by have:=hr p hh.symm;omega));exact⟨this.1.trans (h.rest hp o ho).1,this.2.trans (h.rest hp o ho).2⟩⟩
end HB
namespace HB
def RdX(w:World)(p g:Nat)(A:Option Addr)(n:Nat)(l:List En):Prop:=Rd w w.heap.size 3 A n (l.flatMap ZT)/\(0<n->∀ a,A=some a->a.block≠p/\a.block≠g)
section
variable{w w':World}{p g g' n:Nat}{A:Option Addr}{l:List En}
theorem RdX.only(h:RdX w p g A n l)(ho:Only p g w w')(hg:g'=g\/w.heap.size<=g'):RdX w' p g' A n l:=by
 obtain⟨⟨h1,h2⟩,h3⟩:=h;refine⟨⟨h1,fun hn=>?_⟩,fun hn a ha=>?_⟩
 ·obtain⟨b,off,rfl,hb,hc⟩:=h2 hn;have:=h3 hn _ rfl;exact⟨b,off,rfl,Nat.lt_of_lt_of_le hb ho.size,fun j u hu=>ho.cell (a:=⟨b,off+j,none⟩) (hc j u hu) this.1 this.2⟩
 ·obtain⟨b,off,hA,hb,hc⟩:=h2 hn;have:=h3 hn _ ha;refine⟨this.1,?_⟩;rw[hA]at ha;injection ha with ha;subst ha;rcases hg with rfl|hg
  ·exact this.2
  ·simp only;omega
theorem RdX.fresh{base c:Nat}{e:TypeId}(h:Own w base e 3 ZT (.slice A l.length c) l)(hp:p<base)(hg:g<base):RdX w p g A l.length l:=by
 refine⟨Rd.own h.row,fun hn a ha=>?_⟩;subst ha;obtain⟨b,cap,hv,hb,_⟩:=h.at_ hn;simp only[Value.slice.injEq,Option.some.injEq]at hv;obtain⟨rfl,_⟩:=hv;simp only;omega
theorem RdX.cut(h:RdX w p g A n l){k cap:Nat}(hk:k<=n)(hc:n<=cap):RdX w p g (if cap=k then A else A.map (·.add (k*3))) (n-k) (l.drop k):=by
 refine⟨by have:=h.1.cut hk hc;rwa [qm jD]at this,fun hn a ha=>?_⟩;have h2:0<n:=by omega
 rw[if_neg (by omega)]at ha;cases A with
 |none=>cases ha
 |some ad=>
  simp only[Option.map_some,Option.some.injEq]at ha;subst ha;have:=h.2 h2 _ rfl;have hb:(ad.add (k*3)).block=ad.block:=by unfold Addr.add;split<;>rfl
  rw[hb];exact this
end
end HB
namespace HeapP
end HeapP
end
end Go.Proofs.YtdeogmbfgkepeaaGreatDoor
