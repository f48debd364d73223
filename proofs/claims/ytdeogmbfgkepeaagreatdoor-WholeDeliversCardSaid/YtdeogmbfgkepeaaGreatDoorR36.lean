/- Contracts for WholeDelivers. -/
import Derived.Test.YtdeogmbfgkepeaaGreatDoorR27
import Derived.Test.YtdeogmbfgkepeaaGreatDoorR35
set_option linter.unusedVariables false
set_option linter.unusedSimpArgs false
set_option maxRecDepth 100000
set_option maxHeartbeats 64000000
namespace Go.Proofs.YtdeogmbfgkepeaaGreatDoor
open Go.Proofs.Tryz
open Go.Value renaming int->O
open Go.IntKind renaming i64->J
section
open Go.RowKit HB
structure IRow where
 A:iX
 (n k:Nat)
 l:l8
abbrev eh(r:IRow):iZ:=[.slice r.A r.n r.k]
theorem aT(r:IRow):(eh r).length=1:=rfl
theorem aU(r:IRow):∀ u∈eh r,u.oneCell'=true:=by intro u hu;rw[vN.1 hu];rfl
theorem IRow.info:(prog.info? 51).map (fun i=>(i.zero,i.size,i.bytes))=some (some (.slice none 0 0),1,24):=by kernel_rfl
structure IRok(w:l6)(B:Nat)(r:IRow):Prop where
 rd:Rd w B 1 r.A r.n (r.l.map (Value.int .i64))
 len:r.l.length=r.n
 n:r.n<=10000000
 lt:∀ b off,r.A=some ⟨b,off,none⟩->b<B
 x:∀ x∈r.l,0<=x/\x<=10000000
theorem IRok.below{w w':l6}{B:Nat}{r:IRow}(h:IRok w B r)(hb:Below B w w'):IRok w' B r:=⟨h.rd.below hb,h.len,h.n,h.lt,h.x⟩
theorem IRok.mono{w:l6}{B B':Nat}{r:IRow}(h:IRok w B r)(hb:B<=B'):IRok w B' r:=⟨h.rd.mono hb,h.len,h.n,fun b off e=>kK (h.lt b off e) hb,h.x⟩
structure IRs(w:l6)(base:Nat)(v:Value)(R:List IRow):Prop where
 own:Own w base 51 1 eh v R
 ok:∀ r∈R,IRok w w.heap.size r/\∀ b off,r.A=some ⟨b,off,none⟩->v.ownBlock≠some b
theorem IRs.nil(w:l6)(base:Nat):IRs w base (.slice none 0 0) []:=⟨Own.nil _ _ _ _ _,fun r hr=>by cases hr⟩
theorem IRs.step{w w':l6}{base:Nat}{v:Value}{R:List IRow}(h:IRs w base v R)(hb:fj w w'):IRs w' base v R:=
 ⟨h.own.but (But.of_below hb) (fun k _ h=>h),fun r hr=>⟨((h.ok r hr).1.below hb).mono hb.size,(h.ok r hr).2⟩⟩
theorem IRs.push{w w':l6}{base:Nat}{v v':Value}{R:List IRow}{r:IRow}(h:IRs w base v R)(hr:IRok w w.heap.size r)(hn:∀ b off,r.A=some ⟨b,off,none⟩->v.ownBlock≠some b)
  (ho:Own w' base 51 1 eh v' (R++[r]))(hg:w.grownBy w' v.ownBlock)(hv:v'.ownBlock=v.ownBlock\/v'.ownBlock=some w.heap.size):IRs w' base v' (R++[r]):=by
 have hb:But (fun k=>v.ownBlock=some k) w w':=(But.refl _ w).grown hg (fun q hq _=>hq);have key:∀ r:IRow,IRok w w.heap.size r->(∀b off,r.A=some ⟨b,off,none⟩->v.ownBlock≠some b)->IRok w' w'.heap.size r/\∀ b off,r.A=some ⟨b,off,none⟩->v'.ownBlock≠some b:=by
  intro r h1 h2;refine⟨⟨(ul h1.rd hb h2).mono hb.size,h1.len,h1.n,fun b off e=>kK (h1.lt b off e) hb.size,h1.x⟩,fun b off e e2=>?_⟩;rcases hv with hv|hv
  ·exact h2 b off e (hv▸e2)
  ·have:=h1.lt b off e;have h3:w.heap.size=b:=ve (hv.symm.trans e2);omega
 refine⟨ho,fun x hx=>?_⟩;rcases yp.1 hx with hx|hx
 ·exact key x (h.ok x hx).1 (h.ok x hx).2
 ·rw[vN.1 hx];exact key r hr hn
theorem Q8(A:iX)(n k B:Nat)(R:List LgRow)(f hz:Int)(w:l6)(hr:Lgs w B A n R)(hB:B<=w.heap.size)(hn:n<=1000)(h0:0<=hz)(h1:hz<=100000000):
  Calls prog 197 #[.slice A n k,O J f,O J hz] w fun e w'=>(∃v S,e=.returned v/\IRs w' w.heap.size v S/\S.length<=n)/\fj w w':=by
 have HR:=ze hr;clear hr
 go_in
 go_wp2_with fail
 go_loopw [7,18] (fun o i wr=>∃(j:Nat)(v:Value)(S:List IRow),v=o/\j<=n/\i=O J j/\IRs wr w.heap.size v S/\S.length<=j/\fj w wr) (fun _ i _=>n-(intOf i).toNat)
 case atStart=>exact⟨0,_,[],rfl,vf _,rfl,IRs.nil _ _,fi,fh⟩
 case round=>
  obtain⟨j,v,S,hv,hj,rfl,hs,ht,hb⟩:=hrel;subst hv;have HB:=ze hb;have HS:=ze hs;have h8:=ze ht;have hP:=hb.size;have hV:(n:Int)<=1000:=by omega
  clear hs ht;by_cases hi:j<n
  ·obtain⟨b,off,r,rfl,c0,q1,q2,q3,q4⟩:=(HR.o.below (hb.mono hB)).elem hi;obtain⟨rA,rn,rk,rl⟩:=r;dsimp only at c0 q1 q2 q3 q4;have Q1:=ze q1;have Q2:=ze q2;have Q4:=ze q4;have i0:(0:Int)<=(j:Int):=by omega
   have i1:(j:Int)<(n:Int):=by omega
   have hA:B<=wr.heap.size:=by omega
   clear hb q1 q2 q4;go_wp2_with(go_at_call 202;refine(yz rA rn rk B rl hz _ Q1.o hA Q2.o q3 Q4.o h0 h1).mono ?_;rintro r5 w6 ⟨v5,out,rfl,k1,k2,k3,k4⟩;obtain⟨sA,sk,rfl,-,k9⟩:=k1.shape;have K1:=ze k9;have K3:=ze k3;have K4:=ze k4;clear k1 k3 k4 k9);have hJ:(out.length:Int)<=10000000:=by omega
   have hR:=ze hJ;have hQ:=ze i1;have hM:wr.heap.size<=w6.heap.size:=K4.o.size
   go_loopw [10,26] (fun o i w7=>∃(m:Nat)(u:Value)(L:l8),u=o/\m<=out.length/\i=O J m/\Own w7 w6.heap.size 3 1 (fa .i64) u L/\L.length<=m/\(∀x∈L,0<=x/\x<=10000000)/\fj w6 w7) (fun _ i _=>out.length-(intOf i).toNat)
   case atStart=>exact⟨0,_,[],rfl,vf _,rfl,Own.nil _ _ _ _ _,fi,fun x hx=>(by cases hx),fh⟩
   case round=>
    obtain⟨m,u,L,hu,hm,rfl,ho,hg,hl,h4⟩:=hrel;subst hu;have hb:=K4.o.trans (h4.mono hM);have h5:=ze hb;have he:=ze h4;have HO:=ze ho;have h6:=ze hl;have h3:=ze hg;have hO:=hb.size;have hN:=h4.size;clear ho hl hg;by_cases hf:m<out.length
    ·have hp:=K1.o.below h4;obtain⟨b2,off2,x,hL,hU,hx,hc⟩:=hp.elem_at vi rfl hf;subst hL;have d0:=hc 0 _ (by omega) rfl;have d1:=hc 1 _ (by omega) rfl;rw[Vt]at d0;have xo:=K3.o x (jx hx);have x0:=xo.1;have x1:=xo.2.1;have i0:(0:Int)<=(m:Int):=by omega
     have i1:(m:Int)<(out.length:Int):=by omega
     clear hb h4 hc hx hp xo;have HX:=ze (Bx.new wr [O J x.a,O J x.b] 342);have Q7:=ze (Q1.o.below ((h5.o.mono hA).alloc (by omega) (.cells #[O J x.a,O J x.b] 342)));go_wp2_with fail;refine(WK rA rn rk B rl _ _ Q7.o Q2.o q3).mono ?_;rintro r8 w8 ⟨⟨p,d,b,rfl⟩,k8⟩;have X8:=HX.o.below k8 (by simp);obtain⟨⟨g0,g1⟩,e0,e1⟩:=X8.o2;have K8:=ze k8;clear k8 X8;have hX:wr.heap.size+1<=w8.heap.size:=by have h9:=K8.o.size;simpa using h9
     have hT:=ze (h5.o.trans (((Below.refl _ wr).alloc fi (.cells #[O J x.a,O J x.b] 342)).trans (K8.o.mono (by simp)) |>.mono hO));have ha:=ze (he.o.trans (((Below.refl _ wr).alloc fi (.cells #[O J x.a,O J x.b] 342)).trans (K8.o.mono (by simp)) |>.mono he.o.size));have h7:=ze (HO.o.below (((Below.refl _ wr).alloc fi (.cells #[O J x.a,O J x.b] 342)).trans (K8.o.mono (by simp))));clear d0 d1;rcases yd b with rfl|rfl
     ·rcases yd (p==f)with hq|hq
      ·have hd:L.length<=1000000000:=by have:=h3.o;omega
       go_wp2_with(at_builtin;refine(kG (P:=prog) rfl _ _ 51 rfl underlying51 Ints.info rfl (by omega) (by omega) rfl (h7.o.alloc _) x.a ⟨_,0,none⟩ 1 rfl rfl (zr _ _ [O J x.a] _ rfl) (by intro u hu;rw[vN.1 hu];rfl) hd (by simp;omega) ?_);intro v9 w9 k1 k2 k3;have K1':=ze k1;have G9:=ze ((ha.o.alloc (by omega) (.cells #[O J x.a] 3)).grown k2 (by simp;omega) (fun k hk=>(h7.o.row.lt k hk).1));clear k1 k2 k3);go_roundw
       case rel=>exact⟨m+1,v9,L++[x.a],rfl,by omega,by go_num,K1'.o,by rw[kC,Jp];have:=h3.o;omega,fun y hy=>(yp.1 hy).elim (h6.o y) (fun h=>by rw[vN.1 h];exact⟨x0,x1⟩),G9.o⟩
       case measure=>simp[intOf];omega
      ·go_wp2_with fail;go_roundw
       case rel=>exact⟨m+1,u,L,rfl,by omega,by go_num,h7.o,by have:=h3.o;omega,h6.o,ha.o⟩
       case measure=>simp[intOf];omega
     ·go_wp2_with fail;go_roundw
      case rel=>exact⟨m+1,u,L,rfl,by omega,by go_num,h7.o,by have:=h3.o;omega,h6.o,ha.o⟩
      case measure=>simp[intOf];omega
    ·obtain rfl:m=out.length:=by omega
     have hI:decide ((out.length:Int)<(out.length:Int))=false:=by simp
     obtain⟨uA,uk,rfl,hW,hw⟩:=HO.o.shape;have hG:=ze hw;have hS:S.length<=1000000000:=by have:=h8.o;omega
     clear hf hw;have H7:=ze (HS.o.step h5.o);have hE:Hz (IRok wr wr.heap.size ⟨uA,L.length,uk,L⟩):=ze ⟨by rw[<-zt];exact hG.o,rfl,by have:=h3.o;show L.length<=10000000;omega,fun b off e=>by have e9:uA=some ⟨b,off,none⟩:=e;rw[e9]at HO;exact(HO.o.row.lt b rfl).2,h6.o⟩;have hD:Hz (∀b off,uA=some ⟨b,off,none⟩->v.ownBlock≠some b):=ze fun b off e e2=>by rw[e]at HO;have h1:=(HO.o.row.lt b rfl).1;have h2:=(HS.o.own.row.lt b e2).2;omega
     have hY:w.heap.size<=wr.heap.size:=by omega
     go_wp2_with(at_builtin;refine kG (P:=prog) rfl _ _ 335 rfl underlying335 IRow.info rfl (by omega) (by omega) rfl (H7.o.own.alloc _) (⟨uA,L.length,uk,L⟩:IRow) ⟨_,0,none⟩ 1 rfl rfl (zr _ _ [Value.slice uA L.length uk] _ rfl) (aU _) hS (by simp;omega) ?_;intro v9 w9 k1 k2 k3;have K1':=ze k1;have G9:=ze k2;have V9:=ze k3;clear k1 k2 k3);have H8:IRs (wr.alloc (.cells #[Value.slice uA L.length uk] 51)) w.heap.size v S:=H7.o.step ((Below.refl _ wr).alloc fi _);have R8:IRok (wr.alloc (.cells #[Value.slice uA L.length uk] 51)) (wr.alloc (.cells #[Value.slice uA L.length uk] 51)).heap.size ⟨uA,L.length,uk,L⟩:=(hE.o.below ((Below.refl _ wr).alloc fi _)).mono (by simp);have hF:=ze (H8.push R8 hD.o K1'.o G9.o V9.o);have hC:=ze (((HB.o.trans (h5.o.mono hP)).alloc (by omega) (.cells #[Value.slice uA L.length uk] 51)).grown G9.o (by simp;omega) (fun k hk=>(H7.o.own.row.lt k hk).1));go_roundw
     case rel=>exact⟨j+1,v9,_,rfl,by omega,by go_num,hF.o,by rw[kC,Jp];have:=h8.o;omega,hC.o⟩
     case measure=>simp[intOf];omega
  ·obtain rfl:j=n:=by omega
   have hI:decide ((j:Int)<(j:Int))=false:=by simp
   clear hi;go_wp2_with fail;go_ret;exact⟨⟨v,S,rfl,HS.o,h8.o⟩,HB.o⟩
structure SRow where
 A:iX
 (n k:Nat)
 l:List iY
abbrev src(r:SRow):iZ:=[.slice r.A r.n r.k]
theorem Q9(r:SRow):(src r).length=1:=rfl
theorem Ky(z:Int):(fa .i64 z).length=1:=rfl
theorem SRow.info:(prog.info? 49).map (fun i=>(i.zero,i.size,i.bytes))=some (some (.slice none 0 0),1,24):=by kernel_rfl
structure SRok(w:l6)(B:Nat)(r:SRow):Prop where
 rd:Rd w B 1 r.A r.n (r.l.map Value.string)
 len:r.l.length=r.n
 n:r.n<=100
 lt:∀ b off,r.A=some ⟨b,off,none⟩->b<B
 x:∀ x∈r.l,x.size<=1000
theorem SRok.below{w w':l6}{B:Nat}{r:SRow}(h:SRok w B r)(hb:Below B w w'):SRok w' B r:=⟨h.rd.below hb,h.len,h.n,h.lt,h.x⟩
theorem SRok.mono{w:l6}{B B':Nat}{r:SRow}(h:SRok w B r)(hb:B<=B'):SRok w B' r:=⟨h.rd.mono hb,h.len,h.n,fun b off e=>kK (h.lt b off e) hb,h.x⟩
theorem SRok.at_{w:l6}{B:Nat}{r:SRow}(h:SRok w B r){j:Nat}(hj:j<r.n):
  ∃(b off:Nat)(x:iY),r.A=some ⟨b,off,none⟩/\r.l[j]?=some x/\w.cell? ⟨b,off+j,none⟩=some (.string x)/\x.size<=1000:=by
 obtain⟨b,off,e,-,hc⟩:=h.rd.2 (by omega);have hl:=h.len;have hr:r.l[j]?=some (r.l[j]'(by omega)):=kD _;exact⟨b,off,_,e,hr,hc j _ (by rw[QL,hr];rfl),h.x _ (jx hr)⟩
structure Srs(w:l6)(B:Nat)(A:iX)(n:Nat)(R:List SRow):Prop where
 rows:Rd w B 1 A n (R.flatMap src)
 len:R.length=n
 at_:∀ r∈R,SRok w B r
theorem Srs.below{w w':l6}{B n:Nat}{A:iX}{R:List SRow}(h:Srs w B A n R)(hb:Below B w w'):Srs w' B A n R:=
 ⟨h.rows.below hb,h.len,fun r hr=>(h.at_ r hr).below hb⟩
theorem Srs.mono{w:l6}{B B' n:Nat}{A:iX}{R:List SRow}(h:Srs w B A n R)(hb:B<=B'):Srs w B' A n R:=
 ⟨h.rows.mono hb,h.len,fun r hr=>(h.at_ r hr).mono hb⟩
theorem Srs.elem{w:l6}{B n:Nat}{A:iX}{R:List SRow}(h:Srs w B A n R){i:Nat}(hi:i<n):
  ∃(b off:Nat)(r:SRow),A=some ⟨b,off,none⟩/\R[i]?=some r/\w.cell? ⟨b,off+i,none⟩=some (.slice r.A r.n r.k)/\SRok w B r:=by
 obtain⟨b,off,r,e,-,hr,hc⟩:=h.rows.elem_at Q9 h.len hi;have c0:=hc 0 _ (by omega) rfl;rw[Vt,iw]at c0;exact⟨b,off,r,e,hr,c0,h.at_ r (jx hr)⟩
theorem Kz(A:iX)(n k B:Nat)(R:List SRow)(w:l6)(hr:Srs w B A n R)(hB:B<=w.heap.size)(hn:n<=1000):
  Calls prog 146 #[.slice A n k] w fun e w'=>(∃v ws,e=.returned v/\Own w' w.heap.size 3 1 (fa .i64) v ws/\ws.length<=100/\(∀x∈ws,0<=x/\x<=1000))/\fj w w':=by
 have HR:=ze hr;clear hr
 go_in
 go_wp2_with fail
 go_loopw [3,10] (fun o i wr=>∃(j:Nat)(v:Value)(ws:l8),v=o/\j<=n/\i=O J j/\Own wr w.heap.size 3 1 (fa .i64) v ws/\ws.length<=100/\(∀x∈ws,0<=x/\x<=1000)/\fj w wr) (fun _ i _=>n-(intOf i).toNat)
 case atStart=>exact⟨0,_,[],rfl,vf _,rfl,Own.nil _ _ _ _ _,by simp,fun x hx=>(by cases hx),fh⟩
 case round=>
  obtain⟨j,v,ws,hv,hj,rfl,ho,hwl,h1,hb⟩:=hrel;subst hv;have HB:=ze hb;have HO:=ze ho;have hf:=ze h1;have hL:=hb.size;have hI:(n:Int)<=1000:=by omega
  clear ho h1;by_cases hi:j<n
  ·obtain⟨b,off,r,rfl,-,c0,q1⟩:=(HR.o.below (hb.mono hB)).elem hi;obtain⟨rA,rn,rk,rl⟩:=r;dsimp only at c0;have Q1:=ze (q1.mono hB);have hJ:(rn:Int)<=100:=by have:rn<=100:=q1.n;omega
   have i0:(0:Int)<=(j:Int):=by omega
   have i1:(j:Int)<(n:Int):=by omega
   have hF:=ze i1;have hq:=ze hwl;clear hb q1 hwl;go_wp2_with fail
   go_loopw [3,16] (fun o i w7=>∃(m:Nat)(v:Value)(ws:l8),v=o/\m<=rn/\i=O J m/\Own w7 w.heap.size 3 1 (fa .i64) v ws/\ws.length<=100/\m<=ws.length/\(∀x∈ws,0<=x/\x<=1000)/\fj w w7/\SRok w7 w.heap.size ⟨rA,rn,rk,rl⟩) (fun _ i _=>rn-(intOf i).toNat)
   case atStart=>exact⟨0,v,ws,rfl,vf _,rfl,HO.o,hq.o,vf _,hf.o,HB.o,Q1.o⟩
   case round=>
    obtain⟨m,v',ws',hv,hm,rfl,ho,hwl,hG,h1,hb,h4⟩:=hrel;subst hv;have h7:=ze hb;have h3:=ze ho;have h8:=ze h1;have hd:=ze h4;have hE:=hb.size;by_cases hg:m<rn
    ·obtain⟨b2,off2,x,e2,-,d0,x0⟩:=h4.at_ (j:=m) hg;have e2:rA=some ⟨b2,off2,none⟩:=e2;subst e2;have i0:(0:Int)<=(m:Int):=by omega
     have i1:(m:Int)<(rn:Int):=by omega
     clear hb h4;by_cases hz:m=ws'.length
     ·obtain⟨sA,sk,hv,-,-⟩:=ho.shape;rw[<-hz]at hv;subst hv;have HZ:=ze hz;have hD:ws'.length<=1000000000:=by omega
      clear ho h1 hz;go_wp2_with(at_builtin;refine kG (P:=prog) rfl _ _ 51 rfl underlying51 Ints.info rfl (by omega) (by omega) rfl (h3.o.alloc _) 0 ⟨_,0,none⟩ 1 rfl rfl (zr _ _ [O J 0] _ rfl) (by intro u hu;rw[vN.1 hu];rfl) hD (by simp;omega) ?_;intro v9 w9 k1 k2 k3;obtain⟨g,cap,hl,hw,hC,ha,h0,h2⟩:=k1.at_ (by simp);rw[kC,Jp,<-HZ.o]at hl;subst hl;have K1':=ze k1;have G9:=ze (((Below.refl w.heap.size wr).alloc hE (.cells #[O J 0] 3)).grown k2 (by simp;omega) (fun k hk=>(h3.o.row.lt k hk).1));have d1:w9.cell? ⟨g,m,none⟩=some (O J 0):=h0 m _ (by rw[zt,QL,HZ.o];simp);have f1:=h2 m;clear k1 k2 k3 h0 h2);go_roundw
      case rel=>
       have hp:=HZ.o;have hl9:(ws'++[(0:Int)]).length=m+1:=by simp[hp]
       have hA:(ws'++[(0:Int)])[m]?=some 0:=by simp[hp]
       have h9:=K1'.o.storeF Ky hl9 (z:=m) (x:=(0:Int)) (x':=(x.size:Int)) (u:=O J x.size) (j:=0) hA rfl Nat.one_pos;rw[iw,Vt]at h9;exact⟨m+1,_,_,rfl,by omega,by go_num,h9.1,by rw[ye,hl9];omega,by rw[ye,hl9];omega,fun y hy=>(eJ hy).elim (fun h=>(yp.1 h).elim (h8.o y) (fun h=>by rw[vN.1 h];omega)) (fun h=>by rw[h];omega),h7.o.trans (G9.o.trans h9.2),hd.o.below (G9.o.trans h9.2)⟩
      case measure=>simp[intOf];omega
     ·obtain⟨g,cap,hv,hw,hC,ha,h0,h2⟩:=ho.at_ (by omega);obtain⟨wn,h5⟩:∃ wn,wn=ws'.length:=⟨_,rfl⟩;rw[<-h5]at hv;subst hv;obtain⟨z,h6⟩:∃ z,ws'[m]?=some z:=⟨_,kD (by omega)⟩;have d1:wr.cell? ⟨g,m,none⟩=some (O J z):=h0 m _ (by rw[zt,QL,h6];rfl);have f1:=h2 m;have hc:=h1 z (jx h6);have z0:=hc.1;have z1:=hc.2;have he:=ze h5;have hs:=ze h6;have q0:(((m:Nat):Int)==((wn:Nat):Int))=false:=by simp;omega
      have i2:(m:Int)<(wn:Int):=by omega
      clear ho h1 hc h0 h2 h6 h5;go_wp2_with fail;go_roundw
      case rel=>
       have h9:=h3.o.storeF Ky he.o.symm (z:=m) (x:=z) (x':=max z (x.size:Int)) (u:=O J (max z (x.size:Int))) (j:=0) hs.o rfl Nat.one_pos;rw[iw,Vt]at h9;have h5:=he.o;exact⟨m+1,_,_,rfl,by omega,by go_num,h9.1,by rw[ye];omega,by rw[ye];omega,fun y hy=>(eJ hy).elim (h8.o y) (fun h=>by rw[h];omega),h7.o.trans h9.2,hd.o.below h9.2⟩
      case measure=>simp[intOf];omega
    ·obtain rfl:m=rn:=by omega
     have ht:decide ((m:Int)<(m:Int))=false:=by simp
     clear hg hb h4 ho h1;go_wp2_with fail;go_roundw
     case rel=>exact⟨j+1,v',ws',rfl,by omega,by go_num,h3.o,hwl,h8.o,h7.o⟩
     case measure=>simp[intOf];omega
  ·obtain rfl:j=n:=by omega
   have ht:decide ((j:Int)<(j:Int))=false:=by simp
   clear hi;go_wp2_with fail;go_ret;exact⟨⟨v,ws,rfl,HO.o,hwl,hf.o⟩,HB.o⟩
def G8(e:Ending):Prop:=Y9 e\/∃ a b c:Int,e=.returned (.tuple #[je a b c,.bool false])
theorem IRs.at_{w:l6}{base:Nat}{A:iX}{k:Nat}{R:List IRow}{n:Nat}(h:IRs w base (.slice A n k) R){j:Nat}(hj:j<R.length):
  ∃(b:Nat)(r:IRow),A=some ⟨b,0,none⟩/\w.cell? ⟨b,j,none⟩=some (.slice r.A r.n r.k)/\IRok w w.heap.size r:=by
 obtain⟨g,cap,hv,-,-,-,hc,-⟩:=h.own.at_ (by omega);cases hv;have hr:R[j]?=some R[j]:=kD hj;have h9:=hc (j*1+0) _ ((flat_get aT R j 0 R[j] hr (by omega)).trans rfl);rw[Vt,iw]at h9;exact⟨g,R[j],rfl,h9,(h.ok _ (iH hj)).1⟩
theorem IRok.at_{w:l6}{B:Nat}{r:IRow}(h:IRok w B r){j:Nat}(hj:j<r.n):
  ∃(b off:Nat)(x:Int),r.A=some ⟨b,off,none⟩/\w.cell? ⟨b,off+j,none⟩=some (O J x)/\0<=x/\x<=10000000:=by
 obtain⟨b,off,e,-,hc⟩:=h.rd.2 (by omega);have hl:=h.len;have hr:r.l[j]?=some (r.l[j]'(by omega)):=kD _;have h9:=h.x _ (jx hr);exact⟨b,off,_,e,hc j _ (by rw[QL,hr];rfl),h9.1,h9.2⟩
theorem Qa(A:iX)(n k B:Nat)(R:List LgRow)(hz:Int)(w:l6)(hr:Lgs w B A n R)(hB:B<=w.heap.size)(hn:n<=20)(h0:0<=hz)(h1:hz<=100000000):
  Calls prog 148 #[.slice A n k,O J hz] w fun e w'=>G8 e/\fj w w':=by
 have HR:=ze (hr.below ((Below.refl B w).alloc hB (.cells #[O J 0,O J 0,O J 0] 60)));have HX:=ze (Bx.new w [O J 0,O J 0,O J 0] 60);have HW:=ze ((Below.refl w.heap.size w).alloc fi (.cells #[O J 0,O J 0,O J 0] 60));have HO:=ze (Q8 A n k B R 0 hz _ HR.o (by simp;omega) (by omega) h0 h1);clear hr
 go_in
 go_wp2_with fail;refine HO.o.mono ?_;rintro r5 w6 ⟨⟨v,S,rfl,hs,hf⟩,k6⟩;have X6:=ze (HX.o.below k6 (by simp));have W6:=ze (HW.o.trans (k6.mono (by simp)));have z6:w.heap.size+1<=w6.heap.size:=by have h9:=k6.size;simpa using h9
 obtain⟨vA,vk,rfl,-,-⟩:=hs.own.shape;have HS:=ze hs;have hq:=ze hf;have ho:(S.length:Int)<=20:=by omega
 clear hs hf k6 HO HR HX HW;go_wp2_with fail
 go_loopw [6,7,8,19] (fun f l c i wr=>∃(j C:Nat)(F La:Int),f=O J F/\l=O J La/\c=O J C/\j<=S.length/\i=O J j/\0<=F/\F<=La/\La<=10000000/\C<=10000000*j/\fj w6 wr) (fun _ _ _ i _=>S.length-(intOf i).toNat)
 case atStart=>exact⟨0,0,0,0,rfl,rfl,rfl,vf _,rfl,by omega,by omega,by omega,by omega,fh⟩
 case round=>
  obtain⟨j,C,F,La,rfl,rfl,rfl,hj,rfl,f0,f1,f2,hC,hb⟩:=hrel;have HC:=ze hC;have HB:=ze hb;by_cases he:j<S.length
  ·obtain⟨b,r,rfl,c0,h5⟩:=(HS.o.step hb).at_ he;obtain⟨rA,rn,rk,rl⟩:=r;dsimp only at c0;have HK:=ze h5;have ht:(rn:Int)<=10000000:=by have:rn<=10000000:=h5.n;omega
   have i0:(0:Int)<=(j:Int):=by omega
   have i1:(j:Int)<(S.length:Int):=by omega
   have hp:=ze i1;clear hb h5 hC;go_wp2_with fail
   go_loopw [6,7,8,25] (fun f l c i w7=>∃(m C':Nat)(F La:Int),f=O J F/\l=O J La/\c=O J C'/\m<=rn/\i=O J m/\0<=F/\F<=La/\La<=10000000/\C'<=C+m/\fj w6 w7/\IRok w7 w7.heap.size ⟨rA,rn,rk,rl⟩) (fun _ _ _ i _=>rn-(intOf i).toNat)
   case atStart=>exact⟨0,C,F,La,rfl,rfl,rfl,vf _,rfl,f0,f1,f2,by omega,HB.o,HK.o⟩
   case round=>
    obtain⟨m,C',F',La',rfl,rfl,rfl,hm,rfl,f0,f1,f2,hc,hb,h7⟩:=hrel;have h6:=ze hc;have h3:=ze hb;have h4:=ze h7;have hi:(C':Int)<=1000000000:=by have:=HC.o;omega
    clear hc;by_cases hd:m<rn
    ·obtain⟨b2,off2,x,e2,d0,x0,x1⟩:=h7.at_ (j:=m) hd;have e2:rA=some ⟨b2,off2,none⟩:=e2;subst e2;have i0:(0:Int)<=(m:Int):=by omega
     have i1:(m:Int)<(rn:Int):=by omega
     clear hb h7;by_cases hz:C'=0
     ·subst hz;go_wp2_with fail;go_roundw
      case rel=>exact⟨m+1,1,x,x,rfl,rfl,rfl,by omega,by go_num,x0,by omega,x1,by omega,h3.o,h4.o⟩
      case measure=>simp[intOf];omega
     ·have q0:((C':Int)==0)=false:=by simp;omega
      by_cases ha:x<F'
      ·have q1:decide (x<F')=true:=by simp;omega
       have q2:decide (La'<x)=false:=by simp;omega
       go_wp2_with fail;go_roundw
       case rel=>exact⟨m+1,C'+1,x,La',rfl,rfl,by go_num,by omega,by go_num,by omega,by omega,by omega,by have h1:=h6.o;omega,by first|exact h3.o|exact h3.o.trans (zg fh _),by first|exact h4.o|exact(h4.o.below (zg fh _))⟩
       case measure=>simp[intOf];omega
      ·have q1:decide (x<F')=false:=by simp;omega
       by_cases hb:La'<x
       ·have q2:decide (La'<x)=true:=by simp;omega
        go_wp2_with fail;go_roundw
        case rel=>exact⟨m+1,C'+1,F',x,rfl,rfl,by go_num,by omega,by go_num,by omega,by omega,by omega,by have h1:=h6.o;omega,by first|exact h3.o|exact h3.o.trans (zg fh _),by first|exact h4.o|exact(h4.o.below (zg fh _))⟩
        case measure=>simp[intOf];omega
       ·have q2:decide (La'<x)=false:=by simp;omega
        go_wp2_with fail;go_roundw
        case rel=>exact⟨m+1,C'+1,F',La',rfl,rfl,by go_num,by omega,by go_num,by omega,by omega,by omega,by have h1:=h6.o;omega,by first|exact h3.o|exact h3.o.trans (zg fh _),by first|exact h4.o|exact(h4.o.below (zg fh _))⟩
        case measure=>simp[intOf];omega
    ·obtain rfl:m=rn:=by omega
     have hk:decide ((m:Int)<(m:Int))=false:=by simp
     clear hd hb h7;go_wp2_with fail;go_roundw
     case rel=>exact⟨j+1,C',F',La',rfl,rfl,rfl,by omega,by go_num,f0,f1,f2,by have h1:=HC.o;have h2:=h6.o;omega,h3.o⟩
     case measure=>simp[intOf];omega
  ·obtain rfl:j=S.length:=by omega
   have hk:decide ((S.length:Int)<(S.length:Int))=false:=by simp
   have hi:(C:Int)<=200000000:=by omega
   obtain⟨⟨c0,c1,c2⟩,g0,g1,g2⟩:=(X6.o.below hb (by omega)).o3;have hu:=hb.size;clear he hC hb;by_cases h2:C<2
   ·have hl:decide ((C:Int)<2)=true:=by simp;omega
    go_wp2_with fail;have h8:=W6.o.trans (HB.o.mono (by omega));refine bodyPost_ret (v:=.tuple #[je 0 0 0,.bool false]) (by rw[zm rfl];go_simp) rfl ⟨.inr ⟨0,0,0,rfl⟩,?_⟩;exact(((h8.setCell (p:=⟨w.heap.size,0,none⟩) fi _).setCell (p:=⟨w.heap.size,1,none⟩) fi _).setCell (p:=⟨w.heap.size,2,none⟩) fi _)
   ·have hl:decide ((C:Int)<2)=false:=by simp;omega
    have hg:=ze (X6.o.below HB.o (by omega));clear c0 c1 c2 g0 g1 g2;go_wp2_with(go_at_call 41;refine(JW _ _ _ (by omega) (by omega) (by omega) (by omega)).mono ?_;rintro r7 w7 ⟨rfl,k7⟩;have z7:=k7.size;have X7:=hg.o.below k7 (by omega);obtain⟨⟨c0,c1,c2⟩,g0,g1,g2⟩:=(X7.below ((Below.refl _ w7).alloc fi (.cells #[O J ((La-F)/((C:Int)-1)),O J ((La-F)%((C:Int)-1)),O J ((C:Int)-1)] 60)) (by omega)).o3;clear X7;have K7:=ze k7;clear k7);have h8:=((W6.o.trans (HB.o.mono (by omega))).trans (K7.o.mono (by omega))).alloc (by omega) (.cells #[O J ((La-F)/((C:Int)-1)),O J ((La-F)%((C:Int)-1)),O J ((C:Int)-1)] 60);refine bodyPost_ret (v:=.tuple #[je ((La-F)/((C:Int)-1)) ((La-F)%((C:Int)-1)) ((C:Int)-1),.bool true]) (by rw[zm rfl];go_simp) rfl ⟨.inl (Kk (by omega) (by omega) (by omega) (by omega)),?_⟩;exact(((h8.setCell (p:=⟨w.heap.size,0,none⟩) fi _).setCell (p:=⟨w.heap.size,1,none⟩) fi _).setCell (p:=⟨w.heap.size,2,none⟩) fi _)
end
end Go.Proofs.YtdeogmbfgkepeaaGreatDoor
