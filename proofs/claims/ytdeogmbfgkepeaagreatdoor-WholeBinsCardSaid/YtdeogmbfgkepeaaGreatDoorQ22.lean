/- Contracts that WholeBins needs. Each tells its conditions. -/
import Derived.Test.YtdeogmbfgkepeaaGreatDoorQ19
set_option linter.unusedVariables false
set_option linter.unusedSimpArgs false
set_option maxRecDepth 100000
set_option maxHeartbeats 64000000
namespace Go.Proofs.YtdeogmbfgkepeaaGreatDoor
open Go.Proofs.Tryz
open Go.Value renaming int->O
open Go.IntKind renaming i64->J,u64->U
section
open Go.RowKit HB Go.Maps CalP
theorem Yq{Q:World->Prop}{w W:World}(S:World->Prop)(hS:S W)(hb:fj w W)(h:∀ W':World,S W'->fj w W'->Q W'):Q W:=h W hS hb
structure LnS(w W:World):Prop where
 b:fj w W
 z:w.heap.size+1<W.heap.size
 r:Bx W w.heap.size [O U 0,O U 0]
 s:∃ x y:Int,Bx W (w.heap.size+1) [O U x,O U y]
section
variable{w W W':World}
theorem LnS.step(h:LnS w W)(hb:fj W W'):LnS w W':=by
 have hz:=h.z;have hs:=hb.size;obtain⟨x,y,hxy⟩:=h.s;exact⟨h.b.trans (hb.mono (by omega)),by omega,h.r.below hb (by omega),x,y,hxy.below hb (by omega)⟩
theorem LnS.grown(h:LnS w W){r:Nat}(hg:W.grownBy W' (some r))(hr:w.heap.size+2<=r):LnS w W':=by
 have hz:=h.z;have hs:=hg.size;obtain⟨x,y,hxy⟩:=h.s;exact⟨h.b.grown hg (by omega) (fun k hk=>by injection hk with hk;omega),by omega,h.r.block (hg.block _ (by omega) (by intro e;injection e;omega)),x,y,hxy.block (hg.block _ (by omega) (by intro e;injection e;omega))⟩
theorem LnS.set(h:LnS w W)(u v:Int):LnS w ((W.setCell ⟨w.heap.size+1,0,none⟩ (O U u)).setCell ⟨w.heap.size+1,1,none⟩ (O U v)):=by
 obtain⟨x,y,hxy⟩:=h.s;refine⟨(h.b.setCell (p:=⟨w.heap.size+1,0,none⟩) (Nat.le_succ _) _).setCell (p:=⟨w.heap.size+1,1,none⟩) (Nat.le_succ _) _,by simpa using h.z,(h.r.setOther (by simp) _).setOther (by simp) _,u,v,?_⟩;have:=(hxy.set 0 (O U u)).set 1 (O U v);simpa using this
end
theorem qv(h:Nat)(S:HS)(i d:Int)(w:World)(H:Hl w h S):
  Calls prog 192 #[.pointer (some ⟨h,0,none⟩),O J i,O J d] w fun e w'=>QU e/\fj w w':=by
 have HB0:=ze (Bx.two w [O U 0,O U 0] [O U 0,O U 0] 325 325 (by decide));have hlt:=H.xlt (.inl rfl);have HL0:=ze (show LnS w ((w.alloc (.cells #[O U 0,O U 0] 325)).alloc (.cells #[O U 0,O U 0] 325))from⟨by go_grown,by simp,HB0.o.1,0,0,HB0.o.2⟩);have HC:=ze H;have HW:=ze (fun x y n V=>QV x y n V);clear H HB0;go_enter func192,ntmps192;go_upto_region 2 with(fail);refine Yq (w:=w) (fun V=>LnS w V) HL0.o HL0.o.b ?_;rintro V hl hbV;have HL:=ze hl;have c1:=(HC.o.below hbV).c1;have c0:=(HC.o.below hbV).c0;obtain⟨V1,cnt1,hrun1,hrg1,hb1,hs1⟩:=(HC.o.below hbV).m2.range (T:=304) (E:=363) underlying304;have HL1:=ze (HL.o.step hb1);have HRG:=ze hrg1;have hz:=hl.z;clear hl hb1 hrg1 HL0;go_wp2_with fail;generalize V.heap.size=r1 at*;clear hrun1 c0 c1
 go_loopw [8] (fun _ wr=>LnS w wr/\∃ cnt,Rg cellK qc S.fc S.mc wr r1 cnt) (fun _ wr=>qu S.mc wr r1)
 case atStart=>exact⟨HL1.o,cnt1,HRG.o⟩
 case round=>
  obtain⟨hl,cnt,hrg⟩:=hrel;have HL:=ze hl;have HR:=ze hrg;rcases hrg.next 0 with⟨h0,hnx⟩|⟨x,c,w2,cnt2,hx,-,hnx,hrg2,hlt2,hg2,hs2,hen⟩
  ·clear hrg h0;have hzw:=hl.z;clear hl;have c0:=(HC.o.below HL.o.b).c0;obtain⟨W1,hW1⟩:∃ W1,W1=wr:=⟨_,rfl⟩;subst hW1;obtain⟨V2,cnt9,hrun9,hrg9,hb9,hs9⟩:=(HC.o.below HL.o.b).m1.range (T:=303) (E:=358) underlying303;have HL9:=ze (HL.o.step hb9);have HRG9:=ze hrg9;clear hb9 hrg9 HR HL1 HRG hs9 hs1;go_wp2_with fail;clear hrun9 c0 hnx;generalize W1.heap.size=r2 at*
   go_loopw [10] (fun _ wr=>LnS w wr/\∃ cnt,Rg hallK Sl.v S.fw S.mw wr r2 cnt) (fun _ wr=>qu S.mw wr r2)
   case atStart=>exact⟨HL9.o,cnt9,HRG9.o⟩
   case round=>
    obtain⟨hl,cnt,hrg⟩:=hrel;have HL:=ze hl;have HR:=ze hrg;rcases hrg.next 0 with⟨h0,hnx⟩|⟨x,c,w2,cnt2,hx,-,hnx,hrg2,hlt2,hg2,hs2,hen⟩
    ·have hzy:=hl.z;have hzy2:w.heap.size<wr.heap.size:=by omega
     obtain⟨a0,a1,ha⟩:=hl.s;obtain⟨⟨d0,d1⟩,g0,g1⟩:=ha.o2;obtain⟨⟨e0,e1⟩,f0,f1⟩:=hl.r.o2;clear hl hrg h0 ha;go_wp2_with fail;refine bodyPost_ret (v:=zy a0 a1) (by rw[zi rfl];go_simp) rfl ?_;exact⟨⟨_,_,rfl⟩,(HL.o.b.setCell (p:=⟨w.heap.size,0,none⟩) fi _).setCell (p:=⟨w.heap.size,1,none⟩) fi _⟩
    ·have HL2:=ze (HL.o.grown hg2 (by omega));have HR2:=ze hrg2;have HM:=ze (show qu S.mw w2 r2<qu S.mw wr r2 from by rw[hrg.left_eq,hrg2.left_eq];exact hlt2);obtain⟨x1,x2,x3⟩:=x;obtain⟨cA,cn,cc⟩:=c;have hnx':(Instr.next (.pointer (some ⟨r2,0,none⟩)) false 0).run prog wr=.ok (.tuple #[.bool true,.agg #[O J x1,O J x2,O J x3],.slice cA cn cc]) w2:=hnx;have hen':(Instr.entry (.pointer (some ⟨r2,0,none⟩))).run prog w2=.ok (.tuple #[.agg #[O J x1,O J x2,O J x3],.slice cA cn cc]) w2:=hen;have hz2:=HL2.o.z;have hz3:w.heap.size<w2.heap.size:=by omega
     have hz4:w.heap.size+1<w2.heap.size+1:=by omega
     obtain⟨a0,a1,ha⟩:=HL2.o.s;obtain⟨⟨d0,d1⟩,g0,g1⟩:=ha.o2;clear hl hrg hnx hen hrg2 hg2 hs2 hlt2 ha;go_wp2_with(go_at_call 231;refine(HW.o a0 a1 x1 _).mono ?_;rintro r w3 ⟨⟨b0,b1,rfl⟩,hb3⟩;have HB23:=ze (show fj w2 w3 from(((Below.refl w2.heap.size w2).alloc fi _).trans (hb3.mono (by simp))));have HL3:=ze (HL2.o.step HB23.o);have HR3:=ze (HR2.o.below HB23.o);have hz6:=HL3.o.z;obtain⟨z0,z1,hzz⟩:=HL3.o.s;obtain⟨⟨d0,d1⟩,g0,g1⟩:=hzz.o2;clear hzz hb3)
     all_goals
      go_roundw
      case rel=>first
       |exact⟨HL3.o.set b0 b1,_,(HR3.o.set _ (fun b hb e=>by have:=HC.o.m1.lt hb;simp only at e;omega) (by simp only;omega)).set _ (fun b hb e=>by have:=HC.o.m1.lt hb;simp only at e;omega) (by simp only;omega)⟩
       |exact⟨HL2.o.step ((Below.refl w2.heap.size w2).alloc fi _),_,HR2.o.below ((Below.refl w2.heap.size w2).alloc fi _)⟩
      case measure=>first
       |(rw[(show Rg hallK Sl.v S.fw S.mw _ r2 _ from(HR3.o.set _ (fun b hb e=>by have:=HC.o.m1.lt hb;simp only at e;omega) (by simp only;omega)).set _ (fun b hb e=>by have:=HC.o.m1.lt hb;simp only at e;omega) (by simp only;omega)).left_eq];have h1:=HM.o;rw[HR2.o.left_eq]at h1;exact h1)
       |(rw[(HR2.o.below ((Below.refl w2.heap.size w2).alloc fi _)).left_eq];have h1:=HM.o;rw[HR2.o.left_eq]at h1;exact h1)
  ·have HL2:=ze (HL.o.grown hg2 (by omega));have HR2:=ze hrg2;have HM:=ze (show qu S.mc w2 r1<qu S.mc wr r1 from by rw[hrg.left_eq,hrg2.left_eq];exact hlt2);obtain⟨x1,x2⟩:=x;obtain⟨c1,c2⟩:=c;have hnx':(Instr.next (.pointer (some ⟨r1,0,none⟩)) false 0).run prog wr=.ok (.tuple #[.bool true,.agg #[O J x1,O J x2],.agg #[O J c1,O J c2]]) w2:=hnx;have hen':(Instr.entry (.pointer (some ⟨r1,0,none⟩))).run prog w2=.ok (.tuple #[.agg #[O J x1,O J x2],.agg #[O J c1,O J c2]]) w2:=hen;have hz2:=HL2.o.z;have hz3:w.heap.size<w2.heap.size:=by omega
   have hz4:w.heap.size+1<w2.heap.size+1:=by omega
   obtain⟨a0,a1,ha⟩:=HL2.o.s;obtain⟨⟨d0,d1⟩,g0,g1⟩:=ha.o2;clear hl hrg hnx hen hrg2 hg2 hs2 hlt2 ha;go_wp2_with(go_at_call 231;refine(HW.o a0 a1 x1 _).mono ?_;rintro r w3 ⟨⟨b0,b1,rfl⟩,hb3⟩;have HB23:=ze (show fj w2 w3 from((((Below.refl w2.heap.size w2).alloc fi _).alloc (by simp) _).trans (hb3.mono (by simp;omega))));have HL3:=ze (HL2.o.step HB23.o);have HR3:=ze (HR2.o.below HB23.o);have hz6:=HL3.o.z;obtain⟨z0,z1,hzz⟩:=HL3.o.s;obtain⟨⟨d0,d1⟩,g0,g1⟩:=hzz.o2;clear hzz hb3)
   all_goals
    go_roundw
    case rel=>first
     |exact⟨HL3.o.set b0 b1,_,(HR3.o.set _ (fun b hb e=>by have:=HC.o.m2.lt hb;simp only at e;omega) (by simp only;omega)).set _ (fun b hb e=>by have:=HC.o.m2.lt hb;simp only at e;omega) (by simp only;omega)⟩
     |exact⟨HL2.o.step (((Below.refl w2.heap.size w2).alloc fi _).alloc (by simp) _),_,HR2.o.below (((Below.refl w2.heap.size w2).alloc fi _).alloc (by simp) _)⟩
    case measure=>first
     |(rw[(show Rg cellK qc S.fc S.mc _ r1 _ from(HR3.o.set _ (fun b hb e=>by have:=HC.o.m2.lt hb;simp only at e;omega) (by simp only;omega)).set _ (fun b hb e=>by have:=HC.o.m2.lt hb;simp only at e;omega) (by simp only;omega)).left_eq];have h1:=HM.o;rw[HR2.o.left_eq]at h1;exact h1)
     |(rw[(HR2.o.below (((Below.refl w2.heap.size w2).alloc fi _).alloc (by simp) _)).left_eq];have h1:=HM.o;rw[HR2.o.left_eq]at h1;exact h1)
theorem ZI(t a b:Int)(w:World):Calls prog 71 #[O J t,.agg #[O J a,O J b]] w (fk (O J (KX t a b)) w):=by
 have hw:Hz (∀x,KX t a b=x->O J x=O J (KX t a b)):=ze (fun x h=>by rw[h]);by_cases ha:a=0<;>by_cases hb:b=0<;>by_cases h4:t=4<;>by_cases h1:t=1<;>by_cases h3:t=3<;>by_cases h2:t=2<;>first|(exfalso;omega)|skip
 all_goals
  have ea:(a==0)=decide (a=0):=rfl;go_enter func71,ntmps71;go_wp2_with fail;go_quiet(fail);go_wp2_with fail;go_ret;exact⟨congrArg Ending.returned (hw.o _ (by unfold KX;simp[*])),zg (Bs.one w [_,_] 148).b _⟩
structure Gd(w:World)(x:Nat)(m:Option Nat)(n:Nat)(f:Int×Int->Option Int):Prop where
 c:w.cell? ⟨x,0,none⟩=some (.map m)
 fz:w.frozen? ⟨x,0,none⟩=false
 mv:Mv cellK (Value.int .i64) w m n f
 ne:m≠some x
structure GdN(w:World)(x:Nat)(m:Option Nat)(w':World)(m':Option Nat)(n':Nat)(f':Int×Int->Option Int):Prop where
 gd:Gd w' x m' n' f'
 but:But (fun k=>k=x\/m=some k) w w'
 m:∀ k,k<w.heap.size->m'=some k->m=some k
section
variable{w w' w1:World}{x n n' n1:Nat}{m m' m1:Option Nat}{f f' f1:Int×Int->Option Int}
theorem Gd.lt(h:Gd w x m n f):x<w.heap.size:=World.block_lt_of_cell? w _ h.c
theorem Gd.below(h:Gd w x m n f)(hb:fj w w'):Gd w' x m n f:=⟨(hb.cell (p:=⟨x,0,none⟩) h.lt).trans h.c,(hb.frozen (p:=⟨x,0,none⟩) h.lt).trans h.fz,h.mv.below hb,h.ne⟩
theorem Gd.refl(h:Gd w x m n f):GdN w x m w m n f:=⟨h,But.refl _ _,fun _ _ h=>h⟩
theorem Gd.grown(h:Gd w x m n f)(hb:fj w w'):GdN w x m w' m n f:=⟨h.below hb,But.of_below hb,fun _ _ h=>h⟩
theorem GdN.trans(a:GdN w x m w1 m1 n1 f1)(b:GdN w1 x m1 w' m' n' f'):GdN w x m w' m' n' f':=
 ⟨b.gd,a.but.trans b.but fun k hk hx=>hx.elim .inl (fun e=>.inr (a.m k hk e)),fun k hk e=>a.m k hk (b.m k (Nat.lt_of_lt_of_le hk a.but.size) e)⟩
theorem Gd.turned(h:Gd w x m n f)(hg:w.grownBy w' m)(hm:Mv cellK (Value.int .i64) w' m n' f'):GdN w x m w' m n' f':=by
 have hb:But (fun k=>m=some k) w w':=But.of_grown hg fun k hk=>hk
 have hh:w'.heap[x]?=w.heap[x]?:=hb.block x h.lt h.ne;exact⟨⟨(World.cell?_of_block (a:=⟨x,0,none⟩) hh).trans h.c,(World.frozen?_of_block (a:=⟨x,0,none⟩) hh).trans h.fz,hm,h.ne⟩,hb.mono fun k _ hk=>.inr hk,fun k _ e=>e⟩
theorem Gd.made(h:Gd w x none n f):GdN w x none ((w.alloc (.map #[] 0)).setCell ⟨x,0,none⟩ (.map (some w.heap.size))) (some w.heap.size) 0 (fun _=>none):=by
 have hlt:=h.lt;have H1:=h.below ((Below.refl w.heap.size w).alloc fi (.map #[] 0));have hbx:But (fun k=>k=x) w ((w.alloc (.map #[] 0)).setCell ⟨x,0,none⟩ (.map (some w.heap.size))):=(But.of_below (X:=fun k=>k=x) ((Below.refl w.heap.size w).alloc fi (.map #[] 0))).set (a:=⟨x,0,none⟩) (.inl rfl) _;refine⟨⟨World.cell?_setCell_same _ _ _ H1.c,by rw[World.frozen?_setCell];exact H1.fz,(Mv.made cellK _ w).but (X:=fun k=>k=x) ((But.refl (fun k=>k=x) _).set (a:=⟨x,0,none⟩) (.inl rfl) _) (fun b hb e=>?_),fun e=>?_⟩,hbx.mono fun k _ hk=>.inl hk,fun k hk e=>?_⟩
 ·injection hb with hb;omega
 ·injection e with e;omega
 ·injection e with e;omega
end
theorem Jy(w:World){x:Nat}(h:x<w.heap.size)(o:Obj)(k:Nat)(u:Value):(w.alloc o).setCell ⟨x,k,none⟩ u=(w.setCell ⟨x,k,none⟩ u).alloc o:=by
 unfold World.setCell World.alloc;simp only
 congr 1
 apply Array.ext
 ·simp
 ·intro j h1 h2;simp only[Array.getElem_modify,Array.getElem_push,Array.size_modify];by_cases hj:j<w.heap.size
  ·simp[hj]
  ·have:¬ x=j:=by omega
   simp[hj,this]
theorem Gd.drop{w:World}{x n:Nat}{m:Option Nat}{f:Int×Int->Option Int}(h:Gd w x m n f){a b:Int}(hk:cellK.wf (a,b))(ty:TypeId):∃ w',(Builtin.delete_ #[143,148] ty #[.map m,.agg #[O J a,O J b]]).run prog w=.ok (.tuple #[]) w'/\GdN w x m w' m n (vt f (a,b) none):=by
 obtain⟨w',h1,h2,h3⟩:=h.mv.drop (T:=143) (E:=3) underlying143 (x:=(a,b)) hk ty;exact⟨w',h1,h.turned h3 h2⟩
theorem Gd.store{w:World}{x n b0:Nat}{f:Int×Int->Option Int}(h:Gd w x (some b0) n f)(hn:n<=1000000){a b:Int}(hk:cellK.wf (a,b))(c:Int):∃ w',(Instr.mapUpdate 143 (.map (some b0)) (.agg #[O J a,O J b]) (O J c)).run prog w=.ok () w'/\GdN w x (some b0) w' (some b0) (n+1) (vt f (a,b) (some c)):=by
 obtain⟨w',h1,h2,h3⟩:=h.mv.store (T:=143) (E:=3) underlying143 (by simp only[maxLen];omega) (x:=(a,b)) hk c;exact⟨w',h1,h.turned h3 h2⟩
theorem GS(x n:Nat)(m:Option Nat)(f:Int×Int->Option Int)(a b c:Int)(w:World)(H:Gd w x m n f)(hk:cellK.wf (a,b))(hn:n<=1000000):
  Calls prog 70 #[.pointer (some ⟨x,0,none⟩),.agg #[O J a,O J b],O J c] w fun e w'=>e=.returned (.tuple #[])/\∃ m' n',GdN w x m w' m' n' (vt f (a,b) (if c=0 then none else some c))/\n'<=n+1:=by
 have hlt:=H.lt;have c0:=H.c;have f0:=H.fz;have HB:=ze (Bs.one w [O J a,O J b] 148);have HC:=ze (H.grown HB.o.b);clear H;by_cases hc:c=0
 ·subst hc;obtain⟨w6,hrun,hN⟩:=(HC.o.gd.below fh.drew).drop hk 0;have HN:=ze hN;clear hN;go_enter func70,ntmps70;go_wp2_with fail;go_region;go_wp2_with fail
  (try simp only[Exit.inBlock,Exit.then]);refine bodyPost_ret (results_none rfl _ _ _) rfl ?_
  exact⟨rfl,m,n,HC.o.trans ((HC.o.gd.grown fh.drew).trans HN.o),by omega⟩
 ·have ec:(c==0)=false:=by simpa using hc
  rw[if_neg hc];have hnil:=fun(W:World)(r:Option Nat)=>run_eql_map_nil (P:=prog) W _ _ _ r underlying143
  have hmm:= @run_makeMap prog;cases m with
  |none=>
   obtain rfl:f=fun _=>none:=by
    rcases HC.o.gd.mv with⟨-,h⟩|⟨b,D,h,-⟩
    ·exact funext h
    ·cases h
   have hm:=HC.o.gd.made;rw[Jy _ (by simp;omega),Jy _ hlt,show(w.alloc (.cells [O J a,O J b].toArray 148)).heap.size=w.heap.size+1 from by simp]at hm;have HM:=ze hm;clear hm;obtain⟨w6,hrun,hN⟩:=(HM.o.gd.below fh.drew).store (by omega) hk c;have HN:=ze hN;clear hN;go_enter func70,ntmps70;go_wp2_with fail;go_region;go_wp2_with fail;go_end0;exact⟨rfl,_,_,HC.o.trans (HM.o.trans ((HM.o.gd.grown fh.drew).trans HN.o)),by omega⟩
  |some b0=>
   obtain⟨w6,hrun,hN⟩:=(HC.o.gd.below fh.drew).store (by omega) hk c;have HN:=ze hN;clear hN;go_enter func70,ntmps70;go_wp2_with fail;go_region;go_wp2_with fail;go_end0;exact⟨rfl,_,_,HC.o.trans ((HC.o.gd.grown fh.drew).trans HN.o),fi⟩
structure GrW(w:World)(x q:Nat)(f:Int×Int->Option Int)(wr:World):Prop where
 gd:∃ m n,Gd wr x m n f/\n<=q/\∀ b,m=some b->w.heap.size<=b
 bel:fj w wr
theorem GrW.set{w wr w':World}{x q n':Nat}{m m':Option Nat}{f':Int×Int->Option Int}(hx:w.heap.size<=x)(hm:∀ b,m=some b->w.heap.size<=b)(hb:fj w wr)(h:GdN wr x m w' m' n' f')(hn:n'<=q):GrW w x q f' w':=
 ⟨⟨m',n',h.gd,hn,fun b e=>by
  rcases Nat.lt_or_ge b wr.heap.size with h1|h1
  ·exact hm b (h.m b h1 e)
  ·have:=hb.size;omega⟩,hb.trans (h.but.below (fun k hk=>hk.elim (fun e=>e▸hx) (fun e=>hm k e)) hb.size)⟩
theorem bI(a b:Nat)(ha:a<=1000)(hb:b<=1000):cellK.wf ((a:Int),(b:Int)):=⟨zQ (by show(-1000000000:Int)<=(a:Int);omega) (by show(a:Int)<=1000000000;omega),zQ (by show(-1000000000:Int)<=(b:Int);omega) (by show(b:Int)<=1000000000;omega)⟩
def dK(t fl:Int)(w:World)(e:Ending)(w':World):Prop:=∃ x,e=.returned (.tuple #[.pointer (some ⟨x,0,none⟩),O J 0])/\w.heap.size<=x/\GrW w x 400 (jd t fl fl 0) w'
theorem KZ(t:Int)(fl:Nat)(ht:1<=t/\t<=4)(h2:2<=fl)(h20:fl<=20)(w:World):Calls prog 49 #[O J t,O J fl] w (dK t fl w):=by
 have t0:=ht.1;have t1:=ht.2;have HT:=ze ht;clear ht;have hH:Gd (w.alloc (.cells #[.map none] 145)) w.heap.size none 0 (jd t fl 0 0):=by
  rw[XH];exact⟨by simp,by simp,.inl ⟨rfl,fun _=>rfl⟩,by simp⟩
 have HW0:=ze (show GrW w w.heap.size (0*20) (jd t fl ((0:Nat):Int) 0) (w.alloc (.cells #[.map none] 145))from⟨⟨none,0,hH,fi,fun b e=>by cases e⟩,fh.alloc fi _⟩);clear hH;go_enter func49,ntmps49;go_wp2_with fail
 go_loopw [24] (fun v wr=>∃ a:Nat,a<=fl/\v=O J a/\GrW w w.heap.size (a*20) (jd t fl a 0) wr) (fun v _=>fl-(intOf v).toNat)
 case atStart=>exact⟨0,Nat.zero_le _,rfl,HW0.o⟩
 case round=>
  obtain⟨a,ha,rfl,hw⟩:=hrel;have HW:=ze hw;clear hw HW0;by_cases hlt:a<fl
  ·have i1:(a:Int)<(fl:Int):=by omega
   have HW1:=ze (show GrW w w.heap.size (a*20+0) (jd t fl a ((0:Nat):Int)) wr from HW.o);obtain⟨W1,hW1⟩:∃ W1,W1=wr:=⟨_,rfl⟩;subst hW1;go_wp2_with fail
   go_loopw [28] (fun v wr=>∃ b:Nat,b<=fl/\v=O J b/\GrW w w.heap.size (a*20+b) (jd t fl a b) wr) (fun v _=>fl-(intOf v).toNat)
   case atStart=>exact⟨0,Nat.zero_le _,rfl,HW1.o⟩
   case round=>
    obtain⟨b,hb,rfl,hw⟩:=hrel;have HW2:=ze hw;clear hw HW1;by_cases hlt2:b<fl
    ·have i2:(b:Int)<(fl:Int):=by omega
     by_cases hab:a=b
     ·subst hab;have HW3:=ze (show GrW w w.heap.size (a*20+(a+1)) (jd t fl a ((a+1:Nat):Int)) wr from by
       obtain⟨⟨m,n,hg,hn,hm⟩,hbl⟩:=HW2.o;have e:=XI t fl a;exact⟨⟨m,n,by rw[show((a+1:Nat):Int)=(a:Int)+1 by omega,<-e];exact hg,by omega,hm⟩,hbl⟩)
      go_wp2_with fail;go_roundw
      case rel=>exact⟨a+1,by omega,by go_num,HW3.o⟩
      case measure=>simp[intOf];omega
     ·have eab:((a:Int)==(b:Int))=false:=by simp;omega
      obtain⟨⟨m,n,hg,hn,hm⟩,hbl⟩:=HW2.o;have HG:=ze hg;have HM:=ze hm;have HBL:=ze hbl;have HWF:=ze (bI a b (by omega) (by omega));clear hg hm hbl;go_wp2_with(first
       |(go_at_call 71;(with_reducible refine(ZI t a b _).mono ?_);rintro r w3 ⟨rfl,hb3⟩;have HB3:=ze hb3;clear hb3)
       |(go_at_call 70;(with_reducible refine(GS w.heap.size n m _ a b (KX t a b) _ (HG.o.below HB3.o) HWF.o (by omega)).mono ?_);rintro r w4 ⟨rfl,m4,n4,h4,hn4⟩;have H4:=ze h4;clear h4))
      go_roundw
      case rel=>
       refine⟨b+1,by omega,by go_num,?_⟩;have e:=UL t fl a b (by omega) (by omega) (by omega);rw[show((b+1:Nat):Int)=(b:Int)+1 by omega,<-e];exact GrW.set fi HM.o (HBL.o.trans (HB3.o.mono HBL.o.size)) H4.o (by omega)
      case measure=>simp[intOf];omega
    ·obtain rfl:b=fl:=by omega
     have HW3:=ze (show GrW w w.heap.size ((a+1)*20) (jd t b ((a+1:Nat):Int) 0) wr from by
      obtain⟨⟨m,n,hg,hn,hm⟩,hbl⟩:=HW2.o;have e:=UK t b a;exact⟨⟨m,n,by rw[show((a+1:Nat):Int)=(a:Int)+1 by omega,<-e];exact hg,by omega,hm⟩,hbl⟩)
     go_wp2_with fail;go_roundw
     case rel=>exact⟨a+1,by omega,by go_num,HW3.o⟩
     case measure=>simp[intOf];omega
  ·obtain rfl:a=fl:=by omega
   go_wp2_with fail;go_ret2;obtain⟨⟨m,n,hg,hn,hm⟩,hbl⟩:=HW.o;exact⟨w.heap.size,rfl,fi,⟨m,n,hg,by omega,hm⟩,hbl⟩
end
end Go.Proofs.YtdeogmbfgkepeaaGreatDoor
