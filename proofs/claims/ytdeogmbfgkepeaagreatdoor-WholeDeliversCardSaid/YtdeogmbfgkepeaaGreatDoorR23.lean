/- Contracts for WholeDelivers. -/
import Derived.Test.YtdeogmbfgkepeaaGreatDoorR16
import Derived.Test.YtdeogmbfgkepeaaGreatDoorR20
set_option linter.unusedVariables false
set_option linter.unusedSimpArgs false
set_option maxRecDepth 100000
set_option maxHeartbeats 64000000
namespace Go.Proofs.YtdeogmbfgkepeaaGreatDoor
open Go.Proofs.Tryz
open Go.Value renaming int->O
open Go.IntKind renaming i64->J
section
open Go.RowKit HB
theorem WN{a d:Int}(h0: -1<=d)(h1:d<=1)(M:Int)(a0: -M<=a)(a1:a<=M): -M<=a*d/\a*d<=M:=by
 rcases(show d=-1\/d=0\/d=1 by omega)with rfl|rfl|rfl<;>constructor<;>omega
theorem YS(A:iX)(n k B:Nat)(l:List Lg)(hz:Int)(w:l6)(hr:Rd w B 4 A n (l.flatMap QX))(hB:B<=w.heap.size)(hl:l.length=n)(hn:n<=10000000)(hok:∀ g∈l,g.ok)(h0:0<=hz)(h1:hz<=100000000):
  Calls prog 201 #[.slice A n k,O J hz] w fun e w'=>(∃a:Int,e=.returned (O J a)/\0<=a/\a<=5000000000000000)/\fj w w':=by
 have HR:=ze hr;have h7:=ze hok;clear hr hok
 go_in
 go_wp2_with fail
 go_loopw [5,6,7,13] (fun c la so i wr=>∃(j:Nat)(N La:Int)(b:Bool),c=O J N/\la=O J La/\so=.bool b/\j<=n/\i=O J j/\0<=N/\N<=500000000*j/\-200000000<=La/\La<=200000000/\fj w wr) (fun _ _ _ i _=>n-(intOf i).toNat)
 case atStart=>exact⟨0,0,0,false,rfl,rfl,rfl,vf _,rfl,by omega,by omega,by omega,by omega,fh⟩
 case round=>
  obtain⟨j,N,La,so,rfl,rfl,rfl,hj,rfl,n0,n1,l0,l1,hb⟩:=hrel;have HB:=ze hb;have hm:(j:Int)<=10000000:=by omega
  have n2:N<=5000000000000000:=by omega
  by_cases h8:j<n
  ·have h6:=HR.o.below (hb.mono hB);obtain⟨b,off,x,rfl,hi,hx,hc⟩:=h6.elem_at jk hl (i:=j) h8;have c0:=hc 0 _ (by omega) rfl;have c1:=hc 1 _ (by omega) rfl;have c2:=hc 2 _ (by omega) rfl;rw[Vt]at c0;have h2:=h7.o x (jx hx);have x0:=h2.t0;have x1:=h2.t1;have x2:=h2.p0;have x3:=h2.p1;have x4:=h2.d0;have x5:=h2.d1;have i0:(0:Int)<=(j:Int):=by omega
   have i1:(j:Int)<(n:Int):=by omega
   have key:∃ E:Int,0<=E/\E<=hz/\((j+1<n/\∃ y:Int,wr.cell? ⟨b,off+(j+1)*4,none⟩=some (O J y)/\min hz y=E)\/(¬(j+1<n)/\E=hz)):=by
    by_cases h9:j+1<n
    ·obtain⟨b',off',y,e,-,hy,he⟩:=h6.elem_at jk hl (i:=j+1) h9;cases e;have:=h7.o y (jx hy);have d0:=he 0 _ (by omega) rfl;rw[Vt]at d0;exact⟨min hz y.t,by have:=this.t0;omega,by omega,.inl ⟨h9,y.t,d0,rfl⟩⟩
    ·exact⟨hz,h0,Vu _,.inr ⟨h9,rfl⟩⟩
   obtain⟨E,e0,e1,key⟩:=key;have e2:E<=100000000:=by omega
   obtain⟨P,hP⟩:∃ P,P=(E-x.t-1)*x.d:=⟨_,rfl⟩;have h4:x.t<E->-100000000<=P/\P<=100000000:=fun h=>hP▸WN x4 x5 100000000 (by omega) (by omega)
   have HP:=ze hP;have h3:=ze n1;clear hc hx h6 hb h2 hP n1;rcases key with⟨k1,y,d0,d1⟩|⟨k1,d1⟩
   ·have i2:(j:Int)+1<(n:Int):=by omega
    go_upto_region 8 with(fail);clear d0 d1;by_cases hE:E<=x.t
    ·go_wp2_with fail;go_ret;exact⟨⟨_,rfl,n0,n2⟩,HB.o⟩
    ·have hp:=h4 (by omega);have ha:decide (E<=x.t)=false:=by simp;omega
     have hd:=HP.o.symm;have hf:=hp.1;have hg:=hp.2;clear hE hp h4;rcases yd so with rfl|rfl
     ·go_wp2_with fail;go_quiet(fail);go_wp2_with fail;go_quiet(fail);go_wp2_with fail;go_roundw
      case rel=>
       have h5:=h3.o;refine⟨j+1,_,_,_,rfl,rfl,rfl,by omega,by go_num,?_,?_,?_,?_,HB.o.trans (zg fh _)⟩
       all_goals first|omega|(simp;omega)
      case measure=>simp[intOf];omega
     ·go_wp2_with fail;go_quiet(fail);go_wp2_with fail;go_roundw
      case rel=>
       have h5:=h3.o;refine⟨j+1,_,_,_,rfl,rfl,rfl,by omega,by go_num,?_,?_,?_,?_,HB.o.trans (zg fh _)⟩
       all_goals first|omega|(simp;omega)
      case measure=>simp[intOf];omega
   ·have i2:decide ((j:Int)+1<(n:Int))=false:=by simp;omega
    go_upto_region 8 with(fail);subst d1;by_cases hE:E<=x.t
    ·go_wp2_with fail;go_ret;exact⟨⟨_,rfl,n0,n2⟩,HB.o⟩
    ·have hp:=h4 (by omega);have ha:decide (E<=x.t)=false:=by simp;omega
     have hd:=HP.o.symm;have hf:=hp.1;have hg:=hp.2;clear hE hp h4;rcases yd so with rfl|rfl
     ·go_wp2_with fail;go_quiet(fail);go_wp2_with fail;go_quiet(fail);go_wp2_with fail;go_roundw
      case rel=>
       have h5:=h3.o;refine⟨j+1,_,_,_,rfl,rfl,rfl,by omega,by go_num,?_,?_,?_,?_,HB.o.trans (zg fh _)⟩
       all_goals first|omega|(simp;omega)
      case measure=>simp[intOf];omega
     ·go_wp2_with fail;go_quiet(fail);go_wp2_with fail;go_roundw
      case rel=>
       have h5:=h3.o;refine⟨j+1,_,_,_,rfl,rfl,rfl,by omega,by go_num,?_,?_,?_,?_,HB.o.trans (zg fh _)⟩
       all_goals first|omega|(simp;omega)
      case measure=>simp[intOf];omega
  ·obtain rfl:j=n:=by omega
   have hk:decide ((j:Int)<(j:Int))=false:=by simp
   clear h8;go_wp2_with fail;go_ret;exact⟨⟨_,rfl,n0,n2⟩,HB.o⟩
structure LgRow where
 A:iX
 (n k:Nat)
 l:List Lg
abbrev dl(r:LgRow):iZ:=[.slice r.A r.n r.k]
theorem aH(r:LgRow):(dl r).length=1:=rfl
structure Lgs(w:l6)(B:Nat)(A:iX)(n:Nat)(R:List LgRow):Prop where
 rows:Rd w B 1 A n (R.flatMap dl)
 len:R.length=n
 at_:∀ r∈R,Rd w B 4 r.A r.n (r.l.flatMap QX)/\r.l.length=r.n/\r.n<=10000000/\∀ g∈r.l,g.ok
theorem Lgs.below{w w':l6}{B n:Nat}{A:iX}{R:List LgRow}(h:Lgs w B A n R)(hb:Below B w w'):Lgs w' B A n R:=
 ⟨h.rows.below hb,h.len,fun r hr=>⟨(h.at_ r hr).1.below hb,(h.at_ r hr).2⟩⟩
theorem Lgs.elem{w:l6}{B n:Nat}{A:iX}{R:List LgRow}(h:Lgs w B A n R){i:Nat}(hi:i<n):
  ∃(b off:Nat)(r:LgRow),A=some ⟨b,off,none⟩/\w.cell? ⟨b,off+i,none⟩=some (.slice r.A r.n r.k)/\Rd w B 4 r.A r.n (r.l.flatMap QX)/\r.l.length=r.n/\r.n<=10000000/\∀ g∈r.l,g.ok:=by
 obtain⟨b,off,r,e,-,hr,hc⟩:=h.rows.elem_at aH h.len hi;have c0:=hc 0 _ (by omega) rfl;rw[Vt,iw]at c0;exact⟨b,off,r,e,c0,h.at_ r (jx hr)⟩
theorem aI(A:iX)(n k B:Nat)(R:List LgRow)(hz:Int)(w:l6)(hr:Lgs w B A n R)(hB:B<=w.heap.size)(hn:n<=1000)(h0:0<=hz)(h1:hz<=100000000):
  Calls prog 152 #[.slice A n k,O J hz] w fun e w'=>(∃a:Int,e=.returned (O J a)/\0<=a/\a<=5000000000000000000)/\fj w w':=by
 have HR:=ze hr;clear hr
 go_in
 go_wp2_with fail
 go_loopw [5,10] (fun c i wr=>∃(j:Nat)(N:Int),c=O J N/\j<=n/\i=O J j/\0<=N/\N<=5000000000000000*j/\fj w wr) (fun _ i _=>n-(intOf i).toNat)
 case atStart=>exact⟨0,0,rfl,vf _,rfl,by omega,by omega,fh⟩
 case round=>
  obtain⟨j,N,rfl,hj,rfl,n0,n1,hb⟩:=hrel;have HB:=ze hb;have h7:=hb.size;have h6:(n:Int)<=1000:=by omega
  by_cases h2:j<n
  ·obtain⟨b,off,r,rfl,c0,q1,q2,q3,q4⟩:=(HR.o.below (hb.mono hB)).elem h2;obtain⟨rA,rn,rk,rl⟩:=r;dsimp only at c0 q1 q2 q3 q4;have Q1:=ze q1;have Q2:=ze q2;have Q4:=ze q4;have i0:(0:Int)<=(j:Int):=by omega
   have i1:(j:Int)<(n:Int):=by omega
   have n2:N<=5000000000000000000:=by omega
   have h3:=ze n1;clear hb q1 q2 q4 n1;have Q5:=ze (Q1.o.below (Below.refl B wr));have h4:B<=wr.heap.size:=by omega
   go_wp2_with(go_at_call 201;refine(YS rA rn rk B rl hz _ Q5.o h4 Q2.o q3 Q4.o h0 h1).mono ?_;rintro r5 w6 ⟨⟨a,rfl,a0,a1⟩,k1⟩;have K1:=ze k1;clear k1);go_roundw
   case rel=>
    have y1:=h3.o;have:fj w w6:=HB.o.trans (K1.o.mono (by omega));exact⟨j+1,_,rfl,by omega,by go_num,by first|omega|(simp;omega),by first|omega|(simp;omega),this⟩
   case measure=>simp[intOf];omega
  ·obtain rfl:j=n:=by omega
   have h5:decide ((j:Int)<(j:Int))=false:=by simp
   have n2:N<=5000000000000000000:=by omega
   clear h2;go_wp2_with fail;go_ret;exact⟨⟨_,rfl,n0,n2⟩,HB.o⟩
theorem WO(A:iX)(n k B:Nat)(R:List LgRow)(hz:Int)(w:l6)(hr:Lgs w B A n R)(hB:B<=w.heap.size)(hn:n<=1000)(h0:0<=hz)(h1:hz<=100000000):
  Calls prog 153 #[.slice A n k,O J hz] w fun e w'=>(∃a:Int,e=.returned (O J a)/\yQ a)/\fj w w':=by
 have HR:=ze hr;clear hr
 go_in
 go_wp2_with fail
 go_loopw [5,12] (fun c i wr=>∃(j:Nat)(N:Int),c=O J N/\j<=n/\i=O J j/\-1000000000000000*(j:Int)<=N/\N<=1000000000000000*j/\fj w wr) (fun _ i _=>n-(intOf i).toNat)
 case atStart=>exact⟨0,0,rfl,vf _,rfl,by omega,by omega,fh⟩
 case round=>
  obtain⟨j,N,rfl,hj,rfl,n0,n1,hb⟩:=hrel;have HB:=ze hb;have hd:=hb.size;have ht:(n:Int)<=1000:=by omega
  by_cases h9:j<n
  ·obtain⟨b,off,r,rfl,c0,q1,q2,q3,q4⟩:=(HR.o.below (hb.mono hB)).elem h9;obtain⟨rA,rn,rk,rl⟩:=r;dsimp only at c0 q1 q2 q3 q4;have Q1:=ze q1;have Q2:=ze q2;have Q4:=ze q4;have i0:(0:Int)<=(j:Int):=by omega
   have i1:(j:Int)<(n:Int):=by omega
   clear hb q1 q2 q4;have Q5:=ze (Q1.o.below (Below.refl B wr));have hk:B<=wr.heap.size:=by omega
   go_wp2_with(go_at_call 202;refine(yz rA rn rk B rl hz _ Q5.o hk Q2.o q3 Q4.o h0 h1).mono ?_;rintro r5 w6 ⟨v5,out,rfl,k1,k2,k3,k4⟩;obtain⟨sA,sk,rfl,-,k9⟩:=k1.shape;have K1:=ze k9;have K3:=ze k3;have K4:=ze k4;clear k1 k3 k4 k9);have hg:(out.length:Int)<=10000000:=by omega
   have hp:=ze hg;have HJ:=ze (show(j:Int)<=1000 by omega);have h3:=ze n0;have h4:=ze n1;have ho:=ze i1;have hl:w.heap.size<=w6.heap.size:=vD hd K4.o.size;have he:=ze (show fj w w6 from HB.o.trans (K4.o.mono hd))
   go_loopw [5,20] (fun c i wr=>∃(m:Nat)(M:Int),c=O J M/\m<=out.length/\i=O J m/\N-100000000*m<=M/\M<=N+100000000*m/\fj w6 wr) (fun _ i _=>out.length-(intOf i).toNat)
   case atStart=>exact⟨0,N,rfl,vf _,rfl,by omega,by omega,fh⟩
   case round=>
    obtain⟨m,M,rfl,hm,rfl,m0,m1,hb⟩:=hrel;have h2:=ze hb;by_cases h8:m<out.length
    ·have ha:=K1.o.below hb;obtain⟨b2,off2,x,hi,hq,hx,hc⟩:=ha.elem_at vi rfl h8;subst hi;have d0:=hc 0 _ (by omega) rfl;have d1:=hc 1 _ (by omega) rfl;rw[Vt]at d0;have xo:=K3.o x (jx hx);have x0:=xo.1;have x1:=xo.2.1;have x2:=xo.2.2.1;have x3:=xo.2.2.2;have i0:(0:Int)<=(m:Int):=by omega
     have i1:(m:Int)<(out.length:Int):=by omega
     have h5:=h3.o;have h6:=h4.o;have hs:=HJ.o;have m2: -2000000000000000000<=M:=by omega
     have m3:M<=2000000000000000000:=by omega
     have M0:=ze m0;have M1:=ze m1;clear hb hc hx ha xo m0 m1 h5 h6;go_wp2_with fail;go_roundw
     case rel=>
      have y0:=M0.o;have y1:=M1.o;exact⟨m+1,_,rfl,by omega,by go_num,by first|omega|(simp;omega),by first|omega|(simp;omega),h2.o.trans (by first|exact(zg fh _).alloc (by simp) _|exact fh.alloc (by simp) _|(have h7:=h2.o.size;exact(zg fh _).alloc h7 _)|(have h7:=h2.o.size;exact fh.alloc h7 _))⟩
     case measure=>simp[intOf];omega
    ·obtain rfl:m=out.length:=by omega
     have hf:decide ((out.length:Int)<(out.length:Int))=false:=by simp
     have h5:=h3.o;have h6:=h4.o;have M0:=ze m0;have M1:=ze m1;clear h8 m0 m1 h5 h6;go_wp2_with fail;go_roundw
     case rel=>
      have y0:=M0.o;have y1:=M1.o;have y2:=h3.o;have y3:=h4.o;exact⟨j+1,_,rfl,by omega,by go_num,by first|omega|(simp;omega),by first|omega|(simp;omega),he.o.trans (h2.o.mono hl)⟩
     case measure=>simp[intOf];omega
  ·obtain rfl:j=n:=by omega
   have hf:decide ((j:Int)<(j:Int))=false:=by simp
   have n2:yQ N:=⟨by omega,by omega⟩;clear h9;go_wp2_with fail;go_ret;exact⟨⟨_,rfl,n2⟩,HB.o⟩
end
end Go.Proofs.YtdeogmbfgkepeaaGreatDoor
