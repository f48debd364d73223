/- Contracts for WholeDelivers. -/
import Derived.Shelf.Sort.Plain
import Derived.Sort.OwnSortedInts
import Derived.Test.YtdeogmbfgkepeaaGreatDoorR29
set_option linter.unusedVariables false
set_option linter.unusedSimpArgs false
set_option maxRecDepth 100000
set_option maxHeartbeats 64000000
namespace Go.Proofs.YtdeogmbfgkepeaaGreatDoor
open Go.Proofs.Tryz
open Go.Value renaming int->O
open Go.IntKind renaming i64->J
section
section
open Go.Shelf Go.Sort Go.RowKit
def Tryz.lays189_ren:Go.Shelf.Ren:=⟨fun|189=>44|125=>64|257=>63|128=>94|129=>95|294=>85|295=>86|296=>87|297=>88|298=>89|299=>90|216=>91|300=>92|301=>93|328=>119|329=>120|330=>121|331=>122|332=>123|215=>124|343=>161|n=>n,fun|28=>51|3=>3|46=>137|0=>0|51=>151|53=>129|4=>4|183=>176|182=>175|131=>112|5=>5|9=>9|218=>225|222=>229|228=>289|229=>290|n=>n,fun|n=>n⟩
theorem Tryz.lays189:Go.Proofs.Lays.n189 prog Tryz.lays189_ren:={
 mixed:=by kernel_rfl
 f125:=func64.trans (congrArg some (by kernel_rfl))
 f128:=func94.trans (congrArg some (by kernel_rfl))
 f129:=func95.trans (congrArg some (by kernel_rfl))
 f189:=func44.trans (congrArg some (by kernel_rfl))
 f215:=func124.trans (congrArg some (by kernel_rfl))
 f216:=func91.trans (congrArg some (by kernel_rfl))
 f257:=func63.trans (congrArg some (by kernel_rfl))
 f294:=func85.trans (congrArg some (by kernel_rfl))
 f295:=func86.trans (congrArg some (by kernel_rfl))
 f296:=func87.trans (congrArg some (by kernel_rfl))
 f297:=func88.trans (congrArg some (by kernel_rfl))
 f298:=func89.trans (congrArg some (by kernel_rfl))
 f299:=func90.trans (congrArg some (by kernel_rfl))
 f300:=func92.trans (congrArg some (by kernel_rfl))
 f301:=func93.trans (congrArg some (by kernel_rfl))
 f328:=func119.trans (congrArg some (by kernel_rfl))
 f329:=func120.trans (congrArg some (by kernel_rfl))
 f330:=func121.trans (congrArg some (by kernel_rfl))
 f331:=func122.trans (congrArg some (by kernel_rfl))
 f332:=func123.trans (congrArg some (by kernel_rfl))
 f343:=func161.trans (congrArg some (by kernel_rfl))
 t0:=underlying0
 a0:=isAgg0
 z0:=sizeOf0
 v0:=zeroValue0
 t3:=underlying3
 a3:=isAgg3
 z3:=sizeOf3
 v3:=zeroValue3
 t4:=underlying4
 a4:=isAgg4
 z4:=sizeOf4
 v4:=zeroValue4
 t5:=underlying5
 a5:=isAgg5
 z5:=sizeOf5
 v5:=zeroValue5
 t9:=underlying9
 a9:=isAgg9
 z9:=sizeOf9
 v9:=zeroValue9
 t28:=underlying51
 a28:=isAgg51
 z28:=sizeOf51
 v28:=zeroValue51
 t46:=underlying137
 a46:=isAgg137
 z46:=sizeOf137
 v46:=zeroValue137
 t51:=underlying151
 a51:=isAgg151
 z51:=sizeOf151
 v51:=zeroValue151
 t53:=underlying129
 a53:=isAgg129
 z53:=sizeOf129
 v53:=zeroValue129
 t131:=underlying112
 a131:=isAgg112
 z131:=sizeOf112
 v131:=zeroValue112
 t182:=underlying175
 a182:=isAgg175
 z182:=sizeOf175
 v182:=zeroValue175
 t183:=underlying176
 a183:=isAgg176
 z183:=sizeOf176
 v183:=zeroValue176
 t218:=underlying225
 a218:=isAgg225
 z218:=sizeOf225
 v218:=zeroValue225
 t222:=underlying229
 a222:=isAgg229
 z222:=sizeOf229
 v222:=zeroValue229
 t228:=underlying289
 a228:=isAgg289
 z228:=sizeOf289
 v228:=zeroValue289
 t229:=underlying290
 a229:=isAgg290
 z229:=sizeOf290
 v229:=zeroValue290}
end
open Go.RowKit HB Go.Sort
def qa(l:l8):l8:=l.mergeSort fun x y=>decide (x<=y)
theorem Gk(base:Nat)(v:Value)(l:l8)(w:l6)(h:Own w base 3 1 (fa .i64) v l)(hn:0<l.length)(hm:l.length<4611686018427387904)(hb:base<=w.heap.size):
  Calls prog 44 #[v] w fun e w'=>e=.returned (.tuple #[])/\Own w' base 3 1 (fa .i64) v (qa l)/\Below base w w':=by
 have hr:=h.row;have h5:l.flatMap (fa .i64)=l.map (Value.int .i64):=zt ..;rw[h5]at hr;obtain⟨hx,hr⟩:=hr;rcases hr with⟨-,h0⟩|⟨g,cap,cur,rfl,h2,hg,h7,h3,h4,ht⟩
 ·omega
 ·have hH:Holds (Value.int .i64) w g 0 l.toArray:=holds_of_blockI hg (by simpa using ht);have h6:=(Vp.1 hg).1;refine(Any.slices_Sort_int Tryz.lays189 g 0 cap l w hH h6 hm).mono ?_;rintro e w' ⟨rfl,n,os,rfl⟩;have h1:(qa l).length=l.length:=List.length_mergeSort _;refine⟨rfl,?_,(Below.refl base w).grown (grownBy_sortedI _) hb (fun k hk=>by injection hk with hk;omega)⟩
  show World.ownsRow _ base 3 1 _ (qa l).length ((qa l).flatMap (fa .i64))
  rw[show(qa l).flatMap (fa .i64)=(qa l).map (Value.int .i64)from zt ..,h1];exact ownsRow_sortedI h1 h2 hg h7 h3 h4
end
section
open Go.RowKit HB Go.Sort
theorem Xo(b off n c B:Nat)(l:l8)(w:l6)(hr:Rd w B 1 (some ⟨b,off,none⟩) n (l.map (Value.int .i64)))(hB:B<=w.heap.size)(hl:l.length=n)(hn:n<=100000000):
  Calls prog 43 #[.slice (some ⟨b,off,none⟩) n c] w fun e w'=>∃ v,e=.returned v/\Own w' w.heap.size 3 1 (fa .i64) v l/\fj w w':=by
 have Hl:=ze hl;have HR:=ze hr;have h2:=ze (Own.block (base:=w.heap.size) (f:=fa .i64) (sz:=1) w 3 #[] [] fi rfl (fun _=>rfl) (by simp));have hq:=fun(W:l6)=>Lib.run_eql_slice_nil (P:=prog) W 51 3 (some ⟨b,off,none⟩) n c 0 0 underlying51
 clear hl hr
 go_in
 go_wp2_with(at_builtin;refine qe rfl _ _ 51 rfl underlying51 Ints.info rfl (by omega) (by omega) rfl h2.o l w.heap.size (some ⟨b,off,none⟩) n c rfl Hl.o (by rw[zt];exact(HR.o.mono hB).alloc fi _) (by rw[zt];intro u hu;obtain⟨z,_,rfl⟩:=Vl.1 hu;rfl) (by simp) (by omega) (by go_size) ?_;intro v w1 h0 h3);rw[iA]at h0;have h1:=(show fj w _ from fh.alloc fi _).trans h3;go_ret;exact⟨_,rfl,h0,h1⟩
def Ql(p:Int)(l:l8):Int:=(qa l).getD ((l.length:Int)/100*p+((l.length:Int)%100*p+99)/100-1).toNat 0
theorem Ym(p:Int)(b off n c B:Nat)(l:l8)(w:l6)(hr:Rd w B 1 (some ⟨b,off,none⟩) n (l.map (Value.int .i64)))(hB:B<=w.heap.size)(hl:l.length=n)(hn:n<=10000000)(hpos:0<n)(h0:1<=p)(h1:p<=100):
  Calls prog 20 #[O J p,.slice (some ⟨b,off,none⟩) n c] w (fk (.tuple #[O J (Ql p l),O J 0]) w):=by
 obtain⟨g0,g1⟩:=Kj p n h0 h1 (by omega);have HP:=ze (VL p n w h0 h1 (by omega) (by omega));have HC:=ze (Xo b off n c B l w hr hB hl (by omega));have h7:Ql p l=(qa l).getD ((n:Int)/100*p+((n:Int)%100*p+99)/100-1).toNat 0:=by unfold Ql;rw[hl]
 rw[h7];clear h7;generalize(n:Int)/100*p+((n:Int)%100*p+99)/100=K at g0 g1 HP⊢;have hc:(K-1).toNat=K.toNat-1:=by omega
 rw[hc];have hs:(qa l).length=n:=by rw[<-hl];exact List.length_mergeSort _
 have HK:=ze hs;clear hr
 go_in
 go_wp2_with(first
  |(go_at_call 42;refine HP.o.mono ?_;rintro e w1 ⟨rfl,rfl⟩)
  |(go_at_call 43;refine HC.o.mono ?_;rintro e w2 ⟨v,rfl,h3,hb⟩;have HO:=ze h3;have HB:=ze hb;have hz:=hb.size;clear h3 hb)
  |(go_at_call 44;refine(Gk _ _ _ _ HO.o (by omega) (by omega) hz).mono ?_;rintro e w3 ⟨rfl,h2,h4⟩;obtain⟨A3,c3,rfl,-,h8⟩:=h2.shape;have HS:=ze h8;have h9:=ze (HB.o.trans h4);clear h2 h4 h8;obtain⟨b3,off3,ha,-,h5⟩:=HS.o.2 (by rw[HK.o];exact hpos);subst ha;have h6:=h5 (K.toNat-1) (O J ((qa l).getD (K.toNat-1) 0)) (by rw[zt,QL,QR,kD (by rw[HK.o];omega)];rfl);clear h5;rw[HK.o]))
 go_ret2;exact⟨rfl,h9.o⟩
end
section
open Go.RowKit HB
theorem Uk(Ap:iX)(np cp Bp:Nat)(ps:l8)(b off n c B:Nat)(l:l8)(w:l6)(hp:Rd w Bp 1 Ap np (ps.map (Value.int .i64)))(hBp:Bp<=w.heap.size)(hnp:ps.length=np)(hp4:np<=100)(hps:∀ p∈ps,1<=p/\p<=100)
  (hr:Rd w B 1 (some ⟨b,off,none⟩) n (l.map (Value.int .i64)))(hB:B<=w.heap.size)(hl:l.length=n)(hn:n<=10000000)(hpos:0<n):
  Calls prog 40 #[.slice Ap np cp,.slice (some ⟨b,off,none⟩) n c] w fun e w'=>∃ v,e=.returned (.tuple #[v,O J 0])/\Own w' w.heap.size 3 1 (fa .i64) v (ps.map fun p=>Ql p l)/\fj w w':=by
 have HP:=ze hp;have HR:=ze hr;have h7:=ze hps;clear hp hr hps
 go_in
 go_wp2_with fail
 go_loopw [6,13] (fun v i wr=>∃(j:Nat),j<=np/\i=O J j/\Own wr w.heap.size 3 1 (fa .i64) v ((ps.take j).map fun p=>Ql p l)/\fj w wr) (fun _ i _=>np-(intOf i).toNat)
 case atStart=>exact⟨0,vf _,rfl,Own.nil _ _ _ _ _,fh⟩
 case round=>
  obtain⟨j,hj,rfl,h1,hb⟩:=hrel;have HO:=ze h1;have HB:=ze hb;have hz:=hb.size;clear h1 hb;by_cases hd:j<np
  ·obtain⟨b1,off1,rfl,ha,h0⟩:=(HP.o.below (HB.o.mono hBp)).2 (by omega);have hg:ps[j]?=some (ps[j]'(by omega)):=kD _;generalize ps[j]'(by omega)=p at hg;have hc:=h0 j (O J p) (by rw[QL,hg];rfl);obtain⟨p0,p1⟩:=h7.o p (jx hg);have i0:(0:Int)<=(j:Int):=by omega
   have i1:(j:Int)<(np:Int):=by omega
   have HX:=ze ((show(ps.take (j+1)).map (fun p=>Ql p l)=(ps.take j).map (fun p=>Ql p l)++[Ql p l]from by rw[Vn,hg,XW];simp));have h4:((ps.take j).map fun p=>Ql p l).length<=1000000000:=by rw[KS,XT];omega
   have HC:=ze (Ym p b off n c B l wr (HR.o.below (HB.o.mono hB)) (by omega) hl hn hpos p0 p1);clear h0 hg;go_wp2_with(first
    |(go_at_call 20;refine HC.o.mono ?_;rintro e w1 ⟨rfl,h3⟩;have h6:=ze (HO.o.below h3);have h5:=ze (HB.o.trans (h3.mono hz));have h9:=h5.o.size;clear h3)
    |(at_builtin;refine push rfl _ _ 51 rfl underlying51 Ints.info rfl (by omega) (by omega) rfl (h6.o.alloc _) (Ql p l) ⟨_,0,none⟩ 1 rfl rfl (cell_one_new _ _ _) (by simp[Value.oneCell']) h4 (by simp;omega) ?_;intro v' w2 h2 h8))
   go_roundw
   case rel=>exact⟨j+1,by omega,by go_num,by rw[HX.o];exact h2,(h5.o.alloc h9 _).trans h8⟩
   case measure=>simp[intOf];omega
  ·obtain rfl:j=np:=by omega
   go_wp2_with fail;go_ret2;exact⟨_,rfl,by have:=HO.o;rw[<-hnp,UZ]at this;exact this,HB.o⟩
theorem Ji(w:l6):Calls prog 37 #[] w fun e w'=>∃ v,e=.returned v/\Own w' w.heap.size 3 1 (fa .i64) v [50,90,95,100]/\fj w w':=by
 have HO:=ze (Own.block (base:=w.heap.size) (f:=fa .i64) (sz:=1) w 3 #[O J 50,O J 90,O J 95,O J 100] [50,90,95,100] fi rfl (fun _=>rfl) (by simp))
 go_in
 go_wp2_with fail;go_ret;exact⟨_,rfl,HO.o,fh.alloc fi _⟩
theorem KK(ks:List Nat)(j:Nat):(ks.take j).sum<=ks.sum:=by
 conv=>rhs;rw[<-aa j ks,List.sum_append]
 omega
theorem ZC(ks:List Nat)(j k:Nat)(h:ks[j]?=some k):(ks.take (j+1)).sum=(ks.take j).sum+k:=by
 rw[Vn,h,List.sum_append];simp
theorem Jj(A:iX)(n c B:Nat)(ks:List Nat)(w:l6)(hr:Rd w B 1 A n (ks.map fun k:Nat=>O J (k:Int)))(hB:B<=w.heap.size)(hl:ks.length=n)(hn:n<=10000000)(hpos:0<n)(hs:ks.sum<4611686018427387904):
  Calls prog 19 #[.slice A n c] w (fk (.tuple #[je ((ks.sum:Int)/n) ((ks.sum:Int)%n) n,O J 0]) w):=by
 have HR:=ze hr;have HL:=ze hl;have hz:(w.alloc (.cells #[O J 0,O J 0,O J 0] 60)).heap.size=w.heap.size+1:=by simp
 have HN:=ze (Bx.new w [O J 0,O J 0,O J 0] 60);have h3:=ze (show fj w (w.alloc (.cells #[O J 0,O J 0,O J 0] 60))from by go_grown);clear hr
 go_in
 go_wp2_with fail;generalize hW:w.alloc (.cells #[O J 0,O J 0,O J 0] 60)=W at HN h3 hz⊢
 go_loopw [4,5,10] (fun s e i wr=>∃(j:Nat),j<=n/\i=O J j/\s=O J ((ks.take j).sum:Nat)/\e=O J 0/\wr=W) (fun _ _ i _=>n-(intOf i).toNat)
 case atStart=>exact⟨0,vf _,rfl,rfl,rfl,rfl⟩
 case round=>
  obtain⟨j,hj,rfl,rfl,rfl,rfl⟩:=hrel;by_cases h8:j<n
  ·obtain⟨b,off,rfl,h7,h0⟩:=(HR.o.below (h3.o.mono hB)).2 (by omega);have hk:ks[j]?=some (ks[j]'(by omega)):=kD _;generalize ks[j]'(by omega)=k at hk;have hc:=h0 j (O J (k:Int)) (by rw[QL,hk];rfl);have h1:=ZC ks j k hk;have h2:=KK ks (j+1);have i0:(0:Int)<=(j:Int):=by omega
   have i1:(j:Int)<(n:Int):=by omega
   have e0:decide ((k:Int)<0)=false:=by simp
   have HA:=ze (fun V=>xI (ks.take j).sum k (by omega) (by omega) V);rw[<-h1]at HA;clear h0;go_wp2_with(go_at_call 35;refine(HA.o _).mono ?_;rintro r w1 ⟨rfl,rfl⟩);go_roundw
   case rel=>exact⟨j+1,by omega,by go_num,by first|rfl|(rw[h1];norm_cast),by first|rfl|trivial⟩
   case measure=>simp[intOf];omega
  ·obtain rfl:j=n:=by omega
   have h5:(ks.take j).sum=ks.sum:=by rw[<-HL.o,UZ]
   rw[h5];have HF:=ze (fun V=>JW (ks.sum:Int) (j:Int) V (by omega) (by omega) (by omega) (by omega));go_wp2_with(go_at_call 41;refine(HF.o _).mono ?_;rintro r w1 ⟨rfl,h4⟩;obtain⟨⟨c0,c1,c2⟩,f0,f1,f2⟩:=(HN.o.below h4 (by omega)).o3;have h6:=ze (h3.o.trans (h4.mono (by omega)));clear h4);refine bodyPost_ret (v:=.tuple #[je ((ks.sum:Int)/j) ((ks.sum:Int)%j) j,O J 0]) (by rw[zm rfl];go_simp) rfl ?_;exact⟨rfl,((h6.o.setCell (p:=⟨w.heap.size,0,none⟩) fi _).setCell (p:=⟨w.heap.size,1,none⟩) fi _).setCell (p:=⟨w.heap.size,2,none⟩) fi _⟩
end
end Go.Proofs.YtdeogmbfgkepeaaGreatDoor
