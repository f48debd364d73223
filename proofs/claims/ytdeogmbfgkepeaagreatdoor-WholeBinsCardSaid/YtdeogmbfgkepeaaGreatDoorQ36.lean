/- Contracts that WholeBins needs. Each tells its conditions. -/
import Derived.Test.YtdeogmbfgkepeaaGreatDoorQ27
import Derived.Test.YtdeogmbfgkepeaaGreatDoorQ35
set_option linter.unusedVariables false
set_option linter.unusedSimpArgs false
set_option maxRecDepth 100000
set_option maxHeartbeats 64000000
namespace Go.Proofs.YtdeogmbfgkepeaaGreatDoor
open Go.Proofs.Tryz
open Go.Value renaming int->O
open Go.IntKind renaming i64->J
section
open Go.RowKit HB
structure IRow where
 A:Option Addr
 (n k:Nat)
 l:List Int
abbrev eh(r:IRow):List Value:=[.slice r.A r.n r.k]
theorem aT(r:IRow):(eh r).length=1:=rfl
theorem aU(r:IRow):∀ u∈eh r,u.oneCell'=true:=by intro u hu;rw[List.mem_singleton.1 hu];rfl
theorem IRow.info:(prog.info? 51).map (fun i=>(i.zero,i.size,i.bytes))=some (some (.slice none 0 0),1,24):=by kernel_rfl
structure IRok(w:World)(B:Nat)(r:IRow):Prop where
 rd:Rd w B 1 r.A r.n (r.l.map (Value.int .i64))
 len:r.l.length=r.n
 n:r.n<=10000000
 lt:∀ b off,r.A=some ⟨b,off,none⟩->b<B
 x:∀ x∈r.l,0<=x/\x<=10000000
theorem IRok.below{w w':World}{B:Nat}{r:IRow}(h:IRok w B r)(hb:Below B w w'):IRok w' B r:=⟨h.rd.below hb,h.len,h.n,h.lt,h.x⟩
theorem IRok.mono{w:World}{B B':Nat}{r:IRow}(h:IRok w B r)(hb:B<=B'):IRok w B' r:=⟨h.rd.mono hb,h.len,h.n,fun b off e=>Nat.lt_of_lt_of_le (h.lt b off e) hb,h.x⟩
structure IRs(w:World)(base:Nat)(v:Value)(R:List IRow):Prop where
 own:Own w base 51 1 eh v R
 ok:∀ r∈R,IRok w w.heap.size r/\∀ b off,r.A=some ⟨b,off,none⟩->v.ownBlock≠some b
theorem IRs.nil(w:World)(base:Nat):IRs w base (.slice none 0 0) []:=⟨Own.nil _ _ _ _ _,fun r hr=>by cases hr⟩
theorem IRs.step{w w':World}{base:Nat}{v:Value}{R:List IRow}(h:IRs w base v R)(hb:fj w w'):IRs w' base v R:=
 ⟨h.own.but (But.of_below hb) (fun k _ h=>h),fun r hr=>⟨((h.ok r hr).1.below hb).mono hb.size,(h.ok r hr).2⟩⟩
theorem IRs.push{w w':World}{base:Nat}{v v':Value}{R:List IRow}{r:IRow}(h:IRs w base v R)(hr:IRok w w.heap.size r)(hn:∀ b off,r.A=some ⟨b,off,none⟩->v.ownBlock≠some b)
  (ho:Own w' base 51 1 eh v' (R++[r]))(hg:w.grownBy w' v.ownBlock)(hv:v'.ownBlock=v.ownBlock\/v'.ownBlock=some w.heap.size):IRs w' base v' (R++[r]):=by
 have hb:But (fun k=>v.ownBlock=some k) w w':=(But.refl _ w).grown hg (fun q hq _=>hq);have key:∀ r:IRow,IRok w w.heap.size r->(∀b off,r.A=some ⟨b,off,none⟩->v.ownBlock≠some b)->IRok w' w'.heap.size r/\∀ b off,r.A=some ⟨b,off,none⟩->v'.ownBlock≠some b:=by
  intro r h1 h2;refine⟨⟨(ul h1.rd hb h2).mono hb.size,h1.len,h1.n,fun b off e=>Nat.lt_of_lt_of_le (h1.lt b off e) hb.size,h1.x⟩,fun b off e e2=>?_⟩;rcases hv with hv|hv
  ·exact h2 b off e (hv▸e2)
  ·have:=h1.lt b off e;have h3:w.heap.size=b:=Option.some.inj (hv.symm.trans e2);omega
 refine⟨ho,fun x hx=>?_⟩;rcases List.mem_append.1 hx with hx|hx
 ·exact key x (h.ok x hx).1 (h.ok x hx).2
 ·rw[List.mem_singleton.1 hx];exact key r hr hn
theorem Q8(A:Option Addr)(n k B:Nat)(R:List LgRow)(f hz:Int)(w:World)(hr:Lgs w B A n R)(hB:B<=w.heap.size)(hn:n<=1000)(h0:0<=hz)(h1:hz<=100000000):
  Calls prog 197 #[.slice A n k,O J f,O J hz] w fun e w'=>(∃v S,e=.returned v/\IRs w' w.heap.size v S/\S.length<=n)/\fj w w':=by
 have HR:=ze hr;clear hr;go_enter func197,ntmps197;go_wp2_with fail
 go_loopw [7,18] (fun o i wr=>∃(j:Nat)(v:Value)(S:List IRow),v=o/\j<=n/\i=O J j/\IRs wr w.heap.size v S/\S.length<=j/\fj w wr) (fun _ i _=>n-(intOf i).toNat)
 case atStart=>exact⟨0,_,[],rfl,Nat.zero_le _,rfl,IRs.nil _ _,fi,fh⟩
 case round=>
  obtain⟨j,v,S,hv,hj,rfl,hs,hsl,hb⟩:=hrel;subst hv;have HB:=ze hb;have HS:=ze hs;have HSL:=ze hsl;have hzr:=hb.size;have hn9:(n:Int)<=1000:=by omega
  clear hs hsl;by_cases hlt:j<n
  ·obtain⟨b,off,r,rfl,c0,q1,q2,q3,q4⟩:=(HR.o.below (hb.mono hB)).elem hlt;obtain⟨rA,rn,rk,rl⟩:=r;dsimp only at c0 q1 q2 q3 q4;have Q1:=ze q1;have Q2:=ze q2;have Q4:=ze q4;have i0:(0:Int)<=(j:Int):=by omega
   have i1:(j:Int)<(n:Int):=by omega
   have hz5:B<=wr.heap.size:=by omega
   clear hb q1 q2 q4;go_wp2_with(go_at_call 202;refine(yz rA rn rk B rl hz _ Q1.o hz5 Q2.o q3 Q4.o h0 h1).mono ?_;rintro r5 w6 ⟨v5,out,rfl,k1,k2,k3,k4⟩;obtain⟨sA,sk,rfl,-,k9⟩:=k1.shape;have K1:=ze k9;have K3:=ze k3;have K4:=ze k4;clear k1 k3 k4 k9);have hol:(out.length:Int)<=10000000:=by omega
   have HOL:=ze hol;have HI1:=ze i1;have hz6:wr.heap.size<=w6.heap.size:=K4.o.size
   go_loopw [10,26] (fun o i w7=>∃(m:Nat)(u:Value)(L:List Int),u=o/\m<=out.length/\i=O J m/\Own w7 w6.heap.size 3 1 (fa .i64) u L/\L.length<=m/\(∀x∈L,0<=x/\x<=10000000)/\fj w6 w7) (fun _ i _=>out.length-(intOf i).toNat)
   case atStart=>exact⟨0,_,[],rfl,Nat.zero_le _,rfl,Own.nil _ _ _ _ _,fi,fun x hx=>(by cases hx),fh⟩
   case round=>
    obtain⟨m,u,L,hu,hm,rfl,ho,hlm,hlx,hb6⟩:=hrel;subst hu;have hb:=K4.o.trans (hb6.mono hz6);have HBI:=ze hb;have HB6:=ze hb6;have HO:=ze ho;have HLX:=ze hlx;have HLM:=ze hlm;have hz7:=hb.size;have hz67:=hb6.size;clear ho hlx hlm;by_cases hl2:m<out.length
    ·have hrr:=K1.o.below hb6;obtain⟨b2,off2,x,hv2,hbb,hx,hc⟩:=hrr.elem_at vi rfl hl2;subst hv2;have d0:=hc 0 _ (by omega) rfl;have d1:=hc 1 _ (by omega) rfl;rw[Nat.add_zero]at d0;have xo:=K3.o x (List.mem_of_getElem? hx);have x0:=xo.1;have x1:=xo.2.1;have i0:(0:Int)<=(m:Int):=by omega
     have i1:(m:Int)<(out.length:Int):=by omega
     clear hb hb6 hc hx hrr xo;have HX:=ze (Bx.new wr [O J x.a,O J x.b] 342);have Q7:=ze (Q1.o.below ((HBI.o.mono hz5).alloc (by omega) (.cells #[O J x.a,O J x.b] 342)));go_wp2_with fail;refine(WK rA rn rk B rl _ _ Q7.o Q2.o q3).mono ?_;rintro r8 w8 ⟨⟨p,d,b,rfl⟩,k8⟩;have X8:=HX.o.below k8 (by simp);obtain⟨⟨g0,g1⟩,e0,e1⟩:=X8.o2;have K8:=ze k8;clear k8 X8;have hz8:wr.heap.size+1<=w8.heap.size:=by have h9:=K8.o.size;simpa using h9
     have HW8:=ze (HBI.o.trans (((Below.refl _ wr).alloc fi (.cells #[O J x.a,O J x.b] 342)).trans (K8.o.mono (by simp)) |>.mono hz7));have HW6:=ze (HB6.o.trans (((Below.refl _ wr).alloc fi (.cells #[O J x.a,O J x.b] 342)).trans (K8.o.mono (by simp)) |>.mono HB6.o.size));have HO8:=ze (HO.o.below (((Below.refl _ wr).alloc fi (.cells #[O J x.a,O J x.b] 342)).trans (K8.o.mono (by simp))));clear d0 d1;rcases Bool.eq_false_or_eq_true b with rfl|rfl
     ·rcases Bool.eq_false_or_eq_true (p==f)with hq|hq
      ·have hlen:L.length<=1000000000:=by have:=HLM.o;omega
       go_wp2_with(at_builtin;refine(kG (P:=prog) rfl _ _ 51 rfl underlying51 Ints.info rfl (by omega) (by omega) rfl (HO8.o.alloc _) x.a ⟨_,0,none⟩ 1 rfl rfl (zr _ _ [O J x.a] _ rfl) (by intro u hu;rw[List.mem_singleton.1 hu];rfl) hlen (by simp;omega) ?_);intro v9 w9 k1 k2 k3;have K1':=ze k1;have G9:=ze ((HW6.o.alloc (by omega) (.cells #[O J x.a] 3)).grown k2 (by simp;omega) (fun k hk=>(HO8.o.row.lt k hk).1));clear k1 k2 k3);go_roundw
       case rel=>exact⟨m+1,v9,L++[x.a],rfl,by omega,by go_num,K1'.o,by rw[List.length_append,List.length_singleton];have:=HLM.o;omega,fun y hy=>(List.mem_append.1 hy).elim (HLX.o y) (fun h=>by rw[List.mem_singleton.1 h];exact⟨x0,x1⟩),G9.o⟩
       case measure=>simp[intOf];omega
      ·go_wp2_with fail;go_roundw
       case rel=>exact⟨m+1,u,L,rfl,by omega,by go_num,HO8.o,by have:=HLM.o;omega,HLX.o,HW6.o⟩
       case measure=>simp[intOf];omega
     ·go_wp2_with fail;go_roundw
      case rel=>exact⟨m+1,u,L,rfl,by omega,by go_num,HO8.o,by have:=HLM.o;omega,HLX.o,HW6.o⟩
      case measure=>simp[intOf];omega
    ·obtain rfl:m=out.length:=by omega
     have hd0:decide ((out.length:Int)<(out.length:Int))=false:=by simp
     obtain⟨uA,uk,rfl,huk,hur⟩:=HO.o.shape;have HUR:=ze hur;have hS:S.length<=1000000000:=by have:=HSL.o;omega
     clear hl2 hur;have H7:=ze (HS.o.step HBI.o);have HRW:Hz (IRok wr wr.heap.size ⟨uA,L.length,uk,L⟩):=ze ⟨by rw[<-zt];exact HUR.o,rfl,by have:=HLM.o;show L.length<=10000000;omega,fun b off e=>by have e9:uA=some ⟨b,off,none⟩:=e;rw[e9]at HO;exact(HO.o.row.lt b rfl).2,HLX.o⟩;have HNB:Hz (∀b off,uA=some ⟨b,off,none⟩->v.ownBlock≠some b):=ze fun b off e e2=>by rw[e]at HO;have h1:=(HO.o.row.lt b rfl).1;have h2:=(HS.o.own.row.lt b e2).2;omega
     have hz9:w.heap.size<=wr.heap.size:=by omega
     go_wp2_with(at_builtin;refine kG (P:=prog) rfl _ _ 335 rfl underlying335 IRow.info rfl (by omega) (by omega) rfl (H7.o.own.alloc _) (⟨uA,L.length,uk,L⟩:IRow) ⟨_,0,none⟩ 1 rfl rfl (zr _ _ [Value.slice uA L.length uk] _ rfl) (aU _) hS (by simp;omega) ?_;intro v9 w9 k1 k2 k3;have K1':=ze k1;have G9:=ze k2;have V9:=ze k3;clear k1 k2 k3);have H8:IRs (wr.alloc (.cells #[Value.slice uA L.length uk] 51)) w.heap.size v S:=H7.o.step ((Below.refl _ wr).alloc fi _);have R8:IRok (wr.alloc (.cells #[Value.slice uA L.length uk] 51)) (wr.alloc (.cells #[Value.slice uA L.length uk] 51)).heap.size ⟨uA,L.length,uk,L⟩:=(HRW.o.below ((Below.refl _ wr).alloc fi _)).mono (by simp);have HS9:=ze (H8.push R8 HNB.o K1'.o G9.o V9.o);have HB9:=ze (((HB.o.trans (HBI.o.mono hzr)).alloc (by omega) (.cells #[Value.slice uA L.length uk] 51)).grown G9.o (by simp;omega) (fun k hk=>(H7.o.own.row.lt k hk).1));go_roundw
     case rel=>exact⟨j+1,v9,_,rfl,by omega,by go_num,HS9.o,by rw[List.length_append,List.length_singleton];have:=HSL.o;omega,HB9.o⟩
     case measure=>simp[intOf];omega
  ·obtain rfl:j=n:=by omega
   have hd0:decide ((j:Int)<(j:Int))=false:=by simp
   clear hlt;go_wp2_with fail;go_ret;exact⟨⟨v,S,rfl,HS.o,HSL.o⟩,HB.o⟩
structure SRow where
 A:Option Addr
 (n k:Nat)
 l:List ByteArray
abbrev src(r:SRow):List Value:=[.slice r.A r.n r.k]
theorem Q9(r:SRow):(src r).length=1:=rfl
theorem Ky(z:Int):(fa .i64 z).length=1:=rfl
theorem SRow.info:(prog.info? 49).map (fun i=>(i.zero,i.size,i.bytes))=some (some (.slice none 0 0),1,24):=by kernel_rfl
structure SRok(w:World)(B:Nat)(r:SRow):Prop where
 rd:Rd w B 1 r.A r.n (r.l.map Value.string)
 len:r.l.length=r.n
 n:r.n<=100
 lt:∀ b off,r.A=some ⟨b,off,none⟩->b<B
 x:∀ x∈r.l,x.size<=1000
theorem SRok.below{w w':World}{B:Nat}{r:SRow}(h:SRok w B r)(hb:Below B w w'):SRok w' B r:=⟨h.rd.below hb,h.len,h.n,h.lt,h.x⟩
theorem SRok.mono{w:World}{B B':Nat}{r:SRow}(h:SRok w B r)(hb:B<=B'):SRok w B' r:=⟨h.rd.mono hb,h.len,h.n,fun b off e=>Nat.lt_of_lt_of_le (h.lt b off e) hb,h.x⟩
theorem SRok.at_{w:World}{B:Nat}{r:SRow}(h:SRok w B r){j:Nat}(hj:j<r.n):
  ∃(b off:Nat)(x:ByteArray),r.A=some ⟨b,off,none⟩/\r.l[j]?=some x/\w.cell? ⟨b,off+j,none⟩=some (.string x)/\x.size<=1000:=by
 obtain⟨b,off,e,-,hc⟩:=h.rd.2 (by omega);have hl:=h.len;have hr:r.l[j]?=some (r.l[j]'(by omega)):=List.getElem?_eq_getElem _;exact⟨b,off,_,e,hr,hc j _ (by rw[List.getElem?_map,hr];rfl),h.x _ (List.mem_of_getElem? hr)⟩
structure Srs(w:World)(B:Nat)(A:Option Addr)(n:Nat)(R:List SRow):Prop where
 rows:Rd w B 1 A n (R.flatMap src)
 len:R.length=n
 at_:∀ r∈R,SRok w B r
theorem Srs.below{w w':World}{B n:Nat}{A:Option Addr}{R:List SRow}(h:Srs w B A n R)(hb:Below B w w'):Srs w' B A n R:=
 ⟨h.rows.below hb,h.len,fun r hr=>(h.at_ r hr).below hb⟩
theorem Srs.mono{w:World}{B B' n:Nat}{A:Option Addr}{R:List SRow}(h:Srs w B A n R)(hb:B<=B'):Srs w B' A n R:=
 ⟨h.rows.mono hb,h.len,fun r hr=>(h.at_ r hr).mono hb⟩
theorem Srs.elem{w:World}{B n:Nat}{A:Option Addr}{R:List SRow}(h:Srs w B A n R){i:Nat}(hi:i<n):
  ∃(b off:Nat)(r:SRow),A=some ⟨b,off,none⟩/\R[i]?=some r/\w.cell? ⟨b,off+i,none⟩=some (.slice r.A r.n r.k)/\SRok w B r:=by
 obtain⟨b,off,r,e,-,hr,hc⟩:=h.rows.elem_at Q9 h.len hi;have c0:=hc 0 _ (by omega) rfl;rw[Nat.add_zero,Nat.mul_one]at c0;exact⟨b,off,r,e,hr,c0,h.at_ r (List.mem_of_getElem? hr)⟩
theorem Kz(A:Option Addr)(n k B:Nat)(R:List SRow)(w:World)(hr:Srs w B A n R)(hB:B<=w.heap.size)(hn:n<=1000):
  Calls prog 146 #[.slice A n k] w fun e w'=>(∃v ws,e=.returned v/\Own w' w.heap.size 3 1 (fa .i64) v ws/\ws.length<=100/\(∀x∈ws,0<=x/\x<=1000))/\fj w w':=by
 have HR:=ze hr;clear hr;go_enter func146,ntmps146;go_wp2_with fail
 go_loopw [3,10] (fun o i wr=>∃(j:Nat)(v:Value)(ws:List Int),v=o/\j<=n/\i=O J j/\Own wr w.heap.size 3 1 (fa .i64) v ws/\ws.length<=100/\(∀x∈ws,0<=x/\x<=1000)/\fj w wr) (fun _ i _=>n-(intOf i).toNat)
 case atStart=>exact⟨0,_,[],rfl,Nat.zero_le _,rfl,Own.nil _ _ _ _ _,by simp,fun x hx=>(by cases hx),fh⟩
 case round=>
  obtain⟨j,v,ws,hv,hj,rfl,ho,hwl,hwx,hb⟩:=hrel;subst hv;have HB:=ze hb;have HO:=ze ho;have HWX:=ze hwx;have hzr:=hb.size;have hn9:(n:Int)<=1000:=by omega
  clear ho hwx;by_cases hlt:j<n
  ·obtain⟨b,off,r,rfl,-,c0,q1⟩:=(HR.o.below (hb.mono hB)).elem hlt;obtain⟨rA,rn,rk,rl⟩:=r;dsimp only at c0;have Q1:=ze (q1.mono hB);have hrn:(rn:Int)<=100:=by have:rn<=100:=q1.n;omega
   have i0:(0:Int)<=(j:Int):=by omega
   have i1:(j:Int)<(n:Int):=by omega
   have HI1:=ze i1;have HWL:=ze hwl;clear hb q1 hwl;go_wp2_with fail
   go_loopw [3,16] (fun o i w7=>∃(m:Nat)(v:Value)(ws:List Int),v=o/\m<=rn/\i=O J m/\Own w7 w.heap.size 3 1 (fa .i64) v ws/\ws.length<=100/\m<=ws.length/\(∀x∈ws,0<=x/\x<=1000)/\fj w w7/\SRok w7 w.heap.size ⟨rA,rn,rk,rl⟩) (fun _ i _=>rn-(intOf i).toNat)
   case atStart=>exact⟨0,v,ws,rfl,Nat.zero_le _,rfl,HO.o,HWL.o,Nat.zero_le _,HWX.o,HB.o,Q1.o⟩
   case round=>
    obtain⟨m,v',ws',hv,hm,rfl,ho,hwl,hml,hwx,hb,hok⟩:=hrel;subst hv;have HBI:=ze hb;have HOI:=ze ho;have HXI:=ze hwx;have HOK:=ze hok;have hzi:=hb.size;by_cases hl2:m<rn
    ·obtain⟨b2,off2,x,e2,-,d0,x0⟩:=hok.at_ (j:=m) hl2;have e2:rA=some ⟨b2,off2,none⟩:=e2;subst e2;have i0:(0:Int)<=(m:Int):=by omega
     have i1:(m:Int)<(rn:Int):=by omega
     clear hb hok;by_cases hz:m=ws'.length
     ·obtain⟨sA,sk,hv,-,-⟩:=ho.shape;rw[<-hz]at hv;subst hv;have HZ:=ze hz;have hw9:ws'.length<=1000000000:=by omega
      clear ho hwx hz;go_wp2_with(at_builtin;refine kG (P:=prog) rfl _ _ 51 rfl underlying51 Ints.info rfl (by omega) (by omega) rfl (HOI.o.alloc _) 0 ⟨_,0,none⟩ 1 rfl rfl (zr _ _ [O J 0] _ rfl) (by intro u hu;rw[List.mem_singleton.1 hu];rfl) hw9 (by simp;omega) ?_;intro v9 w9 k1 k2 k3;obtain⟨g,cap,hv9,hg0,hgl,hcap,hcell,hfr⟩:=k1.at_ (by simp);rw[List.length_append,List.length_singleton,<-HZ.o]at hv9;subst hv9;have K1':=ze k1;have G9:=ze (((Below.refl w.heap.size wr).alloc hzi (.cells #[O J 0] 3)).grown k2 (by simp;omega) (fun k hk=>(HOI.o.row.lt k hk).1));have d1:w9.cell? ⟨g,m,none⟩=some (O J 0):=hcell m _ (by rw[zt,List.getElem?_map,HZ.o];simp);have f1:=hfr m;clear k1 k2 k3 hcell hfr);go_roundw
      case rel=>
       have hzm:=HZ.o;have hl9:(ws'++[(0:Int)]).length=m+1:=by simp[hzm]
       have hg9:(ws'++[(0:Int)])[m]?=some 0:=by simp[hzm]
       have h9:=K1'.o.storeF Ky hl9 (z:=m) (x:=(0:Int)) (x':=(x.size:Int)) (u:=O J x.size) (j:=0) hg9 rfl Nat.one_pos;rw[Nat.mul_one,Nat.add_zero]at h9;exact⟨m+1,_,_,rfl,by omega,by go_num,h9.1,by rw[List.length_set,hl9];omega,by rw[List.length_set,hl9];omega,fun y hy=>(List.mem_or_eq_of_mem_set hy).elim (fun h=>(List.mem_append.1 h).elim (HXI.o y) (fun h=>by rw[List.mem_singleton.1 h];omega)) (fun h=>by rw[h];omega),HBI.o.trans (G9.o.trans h9.2),HOK.o.below (G9.o.trans h9.2)⟩
      case measure=>simp[intOf];omega
     ·obtain⟨g,cap,hv,hg0,hgl,hcap,hcell,hfr⟩:=ho.at_ (by omega);obtain⟨wn,hwn⟩:∃ wn,wn=ws'.length:=⟨_,rfl⟩;rw[<-hwn]at hv;subst hv;obtain⟨z,hz9⟩:∃ z,ws'[m]?=some z:=⟨_,List.getElem?_eq_getElem (by omega)⟩;have d1:wr.cell? ⟨g,m,none⟩=some (O J z):=hcell m _ (by rw[zt,List.getElem?_map,hz9];rfl);have f1:=hfr m;have hzx:=hwx z (List.mem_of_getElem? hz9);have z0:=hzx.1;have z1:=hzx.2;have HWN:=ze hwn;have HZ9:=ze hz9;have q0:(((m:Nat):Int)==((wn:Nat):Int))=false:=by simp;omega
      have i2:(m:Int)<(wn:Int):=by omega
      clear ho hwx hzx hcell hfr hz9 hwn;go_wp2_with fail;go_roundw
      case rel=>
       have h9:=HOI.o.storeF Ky HWN.o.symm (z:=m) (x:=z) (x':=max z (x.size:Int)) (u:=O J (max z (x.size:Int))) (j:=0) HZ9.o rfl Nat.one_pos;rw[Nat.mul_one,Nat.add_zero]at h9;have hwn:=HWN.o;exact⟨m+1,_,_,rfl,by omega,by go_num,h9.1,by rw[List.length_set];omega,by rw[List.length_set];omega,fun y hy=>(List.mem_or_eq_of_mem_set hy).elim (HXI.o y) (fun h=>by rw[h];omega),HBI.o.trans h9.2,HOK.o.below h9.2⟩
      case measure=>simp[intOf];omega
    ·obtain rfl:m=rn:=by omega
     have hd0:decide ((m:Int)<(m:Int))=false:=by simp
     clear hl2 hb hok ho hwx;go_wp2_with fail;go_roundw
     case rel=>exact⟨j+1,v',ws',rfl,by omega,by go_num,HOI.o,hwl,HXI.o,HBI.o⟩
     case measure=>simp[intOf];omega
  ·obtain rfl:j=n:=by omega
   have hd0:decide ((j:Int)<(j:Int))=false:=by simp
   clear hlt;go_wp2_with fail;go_ret;exact⟨⟨v,ws,rfl,HO.o,hwl,HWX.o⟩,HB.o⟩
def G8(e:Ending):Prop:=Y9 e\/∃ a b c:Int,e=.returned (.tuple #[je a b c,.bool false])
theorem IRs.at_{w:World}{base:Nat}{A:Option Addr}{k:Nat}{R:List IRow}{n:Nat}(h:IRs w base (.slice A n k) R){j:Nat}(hj:j<R.length):
  ∃(b:Nat)(r:IRow),A=some ⟨b,0,none⟩/\w.cell? ⟨b,j,none⟩=some (.slice r.A r.n r.k)/\IRok w w.heap.size r:=by
 obtain⟨g,cap,hv,-,-,-,hc,-⟩:=h.own.at_ (by omega);cases hv;have hr:R[j]?=some R[j]:=List.getElem?_eq_getElem hj;have h9:=hc (j*1+0) _ ((flat_get aT R j 0 R[j] hr (by omega)).trans rfl);rw[Nat.add_zero,Nat.mul_one]at h9;exact⟨g,R[j],rfl,h9,(h.ok _ (List.getElem_mem hj)).1⟩
theorem IRok.at_{w:World}{B:Nat}{r:IRow}(h:IRok w B r){j:Nat}(hj:j<r.n):
  ∃(b off:Nat)(x:Int),r.A=some ⟨b,off,none⟩/\w.cell? ⟨b,off+j,none⟩=some (O J x)/\0<=x/\x<=10000000:=by
 obtain⟨b,off,e,-,hc⟩:=h.rd.2 (by omega);have hl:=h.len;have hr:r.l[j]?=some (r.l[j]'(by omega)):=List.getElem?_eq_getElem _;have h9:=h.x _ (List.mem_of_getElem? hr);exact⟨b,off,_,e,hc j _ (by rw[List.getElem?_map,hr];rfl),h9.1,h9.2⟩
theorem Qa(A:Option Addr)(n k B:Nat)(R:List LgRow)(hz:Int)(w:World)(hr:Lgs w B A n R)(hB:B<=w.heap.size)(hn:n<=20)(h0:0<=hz)(h1:hz<=100000000):
  Calls prog 148 #[.slice A n k,O J hz] w fun e w'=>G8 e/\fj w w':=by
 have HR:=ze (hr.below ((Below.refl B w).alloc hB (.cells #[O J 0,O J 0,O J 0] 60)));have HX:=ze (Bx.new w [O J 0,O J 0,O J 0] 60);have HW:=ze ((Below.refl w.heap.size w).alloc fi (.cells #[O J 0,O J 0,O J 0] 60));have HO:=ze (Q8 A n k B R 0 hz _ HR.o (by simp;omega) (by omega) h0 h1);clear hr;go_enter func148,ntmps148;go_wp2_with fail;refine HO.o.mono ?_;rintro r5 w6 ⟨⟨v,S,rfl,hs,hsl⟩,k6⟩;have X6:=ze (HX.o.below k6 (by simp));have W6:=ze (HW.o.trans (k6.mono (by simp)));have z6:w.heap.size+1<=w6.heap.size:=by have h9:=k6.size;simpa using h9
 obtain⟨vA,vk,rfl,-,-⟩:=hs.own.shape;have HS:=ze hs;have HSL:=ze hsl;have hs20:(S.length:Int)<=20:=by omega
 clear hs hsl k6 HO HR HX HW;go_wp2_with fail
 go_loopw [6,7,8,19] (fun f l c i wr=>∃(j C:Nat)(F La:Int),f=O J F/\l=O J La/\c=O J C/\j<=S.length/\i=O J j/\0<=F/\F<=La/\La<=10000000/\C<=10000000*j/\fj w6 wr) (fun _ _ _ i _=>S.length-(intOf i).toNat)
 case atStart=>exact⟨0,0,0,0,rfl,rfl,rfl,Nat.zero_le _,rfl,by omega,by omega,by omega,by omega,fh⟩
 case round=>
  obtain⟨j,C,F,La,rfl,rfl,rfl,hj,rfl,f0,f1,f2,hC,hb⟩:=hrel;have HC:=ze hC;have HB:=ze hb;by_cases hlt:j<S.length
  ·obtain⟨b,r,rfl,c0,hrok⟩:=(HS.o.step hb).at_ hlt;obtain⟨rA,rn,rk,rl⟩:=r;dsimp only at c0;have HK:=ze hrok;have hrn:(rn:Int)<=10000000:=by have:rn<=10000000:=hrok.n;omega
   have i0:(0:Int)<=(j:Int):=by omega
   have i1:(j:Int)<(S.length:Int):=by omega
   have HI1:=ze i1;clear hb hrok hC;go_wp2_with fail
   go_loopw [6,7,8,25] (fun f l c i w7=>∃(m C':Nat)(F La:Int),f=O J F/\l=O J La/\c=O J C'/\m<=rn/\i=O J m/\0<=F/\F<=La/\La<=10000000/\C'<=C+m/\fj w6 w7/\IRok w7 w7.heap.size ⟨rA,rn,rk,rl⟩) (fun _ _ _ i _=>rn-(intOf i).toNat)
   case atStart=>exact⟨0,C,F,La,rfl,rfl,rfl,Nat.zero_le _,rfl,f0,f1,f2,by omega,HB.o,HK.o⟩
   case round=>
    obtain⟨m,C',F',La',rfl,rfl,rfl,hm,rfl,f0,f1,f2,hC',hb,hok⟩:=hrel;have HCP:=ze hC';have HBI:=ze hb;have HOK:=ze hok;have hc9:(C':Int)<=1000000000:=by have:=HC.o;omega
    clear hC';by_cases hl2:m<rn
    ·obtain⟨b2,off2,x,e2,d0,x0,x1⟩:=hok.at_ (j:=m) hl2;have e2:rA=some ⟨b2,off2,none⟩:=e2;subst e2;have i0:(0:Int)<=(m:Int):=by omega
     have i1:(m:Int)<(rn:Int):=by omega
     clear hb hok;by_cases hz:C'=0
     ·subst hz;go_wp2_with fail;go_roundw
      case rel=>exact⟨m+1,1,x,x,rfl,rfl,rfl,by omega,by go_num,x0,by omega,x1,by omega,HBI.o,HOK.o⟩
      case measure=>simp[intOf];omega
     ·have q0:((C':Int)==0)=false:=by simp;omega
      by_cases ha:x<F'
      ·have q1:decide (x<F')=true:=by simp;omega
       have q2:decide (La'<x)=false:=by simp;omega
       go_wp2_with fail;go_roundw
       case rel=>exact⟨m+1,C'+1,x,La',rfl,rfl,by go_num,by omega,by go_num,by omega,by omega,by omega,by have h1:=HCP.o;omega,by first|exact HBI.o|exact HBI.o.trans (zg fh _),by first|exact HOK.o|exact(HOK.o.below (zg fh _))⟩
       case measure=>simp[intOf];omega
      ·have q1:decide (x<F')=false:=by simp;omega
       by_cases hb:La'<x
       ·have q2:decide (La'<x)=true:=by simp;omega
        go_wp2_with fail;go_roundw
        case rel=>exact⟨m+1,C'+1,F',x,rfl,rfl,by go_num,by omega,by go_num,by omega,by omega,by omega,by have h1:=HCP.o;omega,by first|exact HBI.o|exact HBI.o.trans (zg fh _),by first|exact HOK.o|exact(HOK.o.below (zg fh _))⟩
        case measure=>simp[intOf];omega
       ·have q2:decide (La'<x)=false:=by simp;omega
        go_wp2_with fail;go_roundw
        case rel=>exact⟨m+1,C'+1,F',La',rfl,rfl,by go_num,by omega,by go_num,by omega,by omega,by omega,by have h1:=HCP.o;omega,by first|exact HBI.o|exact HBI.o.trans (zg fh _),by first|exact HOK.o|exact(HOK.o.below (zg fh _))⟩
        case measure=>simp[intOf];omega
    ·obtain rfl:m=rn:=by omega
     have hd0:decide ((m:Int)<(m:Int))=false:=by simp
     clear hl2 hb hok;go_wp2_with fail;go_roundw
     case rel=>exact⟨j+1,C',F',La',rfl,rfl,rfl,by omega,by go_num,f0,f1,f2,by have h1:=HC.o;have h2:=HCP.o;omega,HBI.o⟩
     case measure=>simp[intOf];omega
  ·obtain rfl:j=S.length:=by omega
   have hd0:decide ((S.length:Int)<(S.length:Int))=false:=by simp
   have hc9:(C:Int)<=200000000:=by omega
   obtain⟨⟨c0,c1,c2⟩,g0,g1,g2⟩:=(X6.o.below hb (by omega)).o3;have hz9:=hb.size;clear hlt hC hb;by_cases h2:C<2
   ·have hd1:decide ((C:Int)<2)=true:=by simp;omega
    go_wp2_with fail;have HBW:=W6.o.trans (HB.o.mono (by omega));refine bodyPost_ret (v:=.tuple #[je 0 0 0,.bool false]) (by rw[zm rfl];go_simp) rfl ⟨.inr ⟨0,0,0,rfl⟩,?_⟩;exact(((HBW.setCell (p:=⟨w.heap.size,0,none⟩) fi _).setCell (p:=⟨w.heap.size,1,none⟩) fi _).setCell (p:=⟨w.heap.size,2,none⟩) fi _)
   ·have hd1:decide ((C:Int)<2)=false:=by simp;omega
    have HXW:=ze (X6.o.below HB.o (by omega));clear c0 c1 c2 g0 g1 g2;go_wp2_with(go_at_call 41;refine(JW _ _ _ (by omega) (by omega) (by omega) (by omega)).mono ?_;rintro r7 w7 ⟨rfl,k7⟩;have z7:=k7.size;have X7:=HXW.o.below k7 (by omega);obtain⟨⟨c0,c1,c2⟩,g0,g1,g2⟩:=(X7.below ((Below.refl _ w7).alloc fi (.cells #[O J ((La-F)/((C:Int)-1)),O J ((La-F)%((C:Int)-1)),O J ((C:Int)-1)] 60)) (by omega)).o3;clear X7;have K7:=ze k7;clear k7);have HBW:=((W6.o.trans (HB.o.mono (by omega))).trans (K7.o.mono (by omega))).alloc (by omega) (.cells #[O J ((La-F)/((C:Int)-1)),O J ((La-F)%((C:Int)-1)),O J ((C:Int)-1)] 60);refine bodyPost_ret (v:=.tuple #[je ((La-F)/((C:Int)-1)) ((La-F)%((C:Int)-1)) ((C:Int)-1),.bool true]) (by rw[zm rfl];go_simp) rfl ⟨.inl (Kk (by omega) (by omega) (by omega) (by omega)),?_⟩;exact(((HBW.setCell (p:=⟨w.heap.size,0,none⟩) fi _).setCell (p:=⟨w.heap.size,1,none⟩) fi _).setCell (p:=⟨w.heap.size,2,none⟩) fi _)
end
end Go.Proofs.YtdeogmbfgkepeaaGreatDoor
