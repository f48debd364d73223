/- Contracts for WholeDelivers. -/
import Derived.IntWalk
import Derived.Test.YtdeogmbfgkepeaaGreatDoorR03
set_option linter.unusedVariables false
set_option linter.unusedSimpArgs false
set_option maxRecDepth 100000
set_option maxHeartbeats 64000000
namespace Go.Proofs.YtdeogmbfgkepeaaGreatDoor
open Go.Proofs.Tryz
open Go.Value renaming int->O
open Go.IntKind renaming i64->J
section
open Go.RowKit HB TabP
theorem yN(A:iX)(n c B:Nat)(l:l8)(w:l6)(hr:Rd w B 1 A n (l.map (Value.int .u64)))(hl:l.length=n)(hn:n<=200):
  Calls prog 72 #[.slice A n c] w fun e w'=>e=.returned (.bool (fd l))/\w=w':=by
 have Hl:=ze hl;clear hl
 go_in
 go_wp2_with fail
 go_loop [7] (fun i=>∃ k:Nat,(k<=n\/k=0)/\0<=k/\i=O J k/\∀(i:Nat)(a b:Int),i+1<k->l[i]?=some a->l[i+1]?=some b->a<=b) (fun i=>n-(intOf i).toNat)
 case atStart=>exact⟨0,.inr rfl,fi,rfl,fun i a b hi=>by omega⟩
 case round=>
  obtain⟨k,hk,h9,rfl,h1⟩:=hrel;have Hp:=ze h1;clear h1;by_cases h6:k<n
  ·obtain⟨b,off,x,rfl,hb,hg,c0⟩:=hr.int_at Hl.o h6;have G:=ze hg;clear hg;by_cases h0:k=0
   ·have dk:decide ((0:Int)<(k:Int))=false:=by simp;omega
    have dk2:decide (0<k)=false:=by simp;omega
    have h5:k+1<=1:=by omega
    clear hr hk h0;go_wp2_with fail
    go_round
    case rel=>exact⟨k+1,.inl (by omega),by omega,by go_num,fun i a b hi=>by omega⟩
    case measure=>simp[intOf];omega
   ·obtain⟨b',off',y,hA,h8,hg',c1⟩:=hr.int_at Hl.o (show k-1<n by omega);simp only[Gv,Addr.mk.injEq,and_true]at hA;obtain⟨rfl,rfl⟩:=hA;have G':=ze hg';clear hg' hr hk;have i0:(0:Int)<=(k:Int)-1:=by omega
    have i1:(k:Int)-1<(n:Int):=by omega
    have i2:((k:Int)-1).toNat=k-1:=by omega
    have h3:k-1+1=k:=by omega
    by_cases h7:x<y
    ·have ht:=ze (XJ G'.o (by rw[h3];exact G.o) h7);go_wp2_with fail;go_ret;exact⟨j8 ht.o.symm,rfl⟩
    ·go_wp2_with fail
     go_round
     case rel=>
      refine⟨k+1,.inl (by omega),by omega,by go_num,fun i a b hi ha hb=>?_⟩;rcases YF (i+1) k with h|h
      ·exact Hp.o i a b h ha hb
      ·obtain rfl:i=k-1:=by omega
       rw[G'.o]at ha;rw[h3,G.o]at hb;obtain rfl:=ve ha;obtain rfl:=ve hb;omega
     case measure=>simp[intOf];omega
  ·have h2:Rises l:=fun i a b ha hb=>Hp.o i a b (by have:=(qd.1 hb).1;rw[Hl.o]at this;omega) ha hb
   by_cases h0:n=0
   ·have h4:l=[]:=List.length_eq_zero_iff.1 (by rw[Hl.o,h0]);have ht:=ze (show fd l=false by rw[h4];exact XL);have dn:decide ((0:Int)<(n:Int))=false:=by simp;omega
    have dn2:decide (0<n)=false:=by simp;omega
    clear h4 h2 h0 hr;go_wp2_with fail;go_ret;exact⟨j8 ht.o.symm,rfl⟩
   ·obtain⟨b,off,x,rfl,hb,hg,c0⟩:=hr.int_at Hl.o (show n-1<n by omega);have ht:=ze (XK (x:=x) h2 (by rw[Hl.o];exact hg));have i0:(0:Int)<=(n:Int)-1:=by omega
    have i1:(n:Int)-1<(n:Int):=by omega
    have i2:((n:Int)-1).toNat=n-1:=by omega
    have dn:decide ((0:Int)<(n:Int))=true:=by simp;omega
    have dn2:decide (0<n)=true:=by simp;omega
    clear hg h2 hr hk;go_wp2_with fail;go_ret;exact⟨j8 ht.o.symm,rfl⟩
def Tab.OfPost(l:l8)(x:Int)(w:l6)(e:Ending)(w':l6):Prop:=∃ k:Nat,e=.returned (O J k)/\First l x k/\w=w'
theorem bP(A:iX)(n c B:Nat)(l:l8)(w:l6)(hr:Rd w B 1 A n (l.map (Value.int .u64)))(hl:l.length=n)(hn:n<=200)(hri:Rises l)(x:Int)(hx:0<=x)(hx1:x<=4294967295):
  Calls prog 74 #[.slice A n c,.int .u32 x] w (Tab.OfPost l x w):=by
 have Hl:=ze hl;have h0:=ze hri;clear hl hri
 go_in
 go_wp2_with fail
 go_loop [5,6] (fun i j=>∃ p q:Nat,p<=q/\q<=n/\i=O J p/\j=O J q/\(∀(i:Nat)(a:Int),i<p->l[i]?=some a->a<=x)/\(q<n->∃ a,l[q]?=some a/\x<a)) (fun i j=>(intOf j).toNat-(intOf i).toNat)
 case atStart=>exact⟨0,n,vf _,fi,rfl,rfl,fun i a hi=>by omega,fun h=>by omega⟩
 case round=>
  obtain⟨p,q,h9,hq,rfl,rfl,h1,h2⟩:=hrel;have H1:=ze h1;have H2:=ze h2;clear h1 h2;by_cases h6:p<q
  ·obtain⟨b,off,y,rfl,hb,hg,c0⟩:=hr.int_at Hl.o (show(p+q)/2<n by omega);have G:=ze hg;clear hg hr;have h4:((p:Int)+(q:Int))%18446744073709551616=(p:Int)+(q:Int):=by omega
   have h7:(((p:Int)+(q:Int))/2)=(((p+q)/2:Nat):Int):=by omega
   generalize hm:(p+q)/2=m at*;have h3:p<=m:=by omega
   have h8:m<q:=by omega
   clear hm;by_cases h5:x<y
   ·go_wp2_with fail
    go_round
    case rel=>
     exact⟨p,m,h3,by omega,rfl,by go_num,H1.o,fun _=>⟨y,G.o,h5⟩⟩
    case measure=>simp[intOf];omega
   ·go_wp2_with fail
    go_round
    case rel=>
     refine⟨m+1,q,by omega,hq,by go_num,rfl,fun i a hi ha=>?_,H2.o⟩;have:=h0.o.le (show i<=m by omega) ha G.o;omega
    case measure=>simp[intOf];omega
  ·obtain rfl:p=q:=by omega
   go_wp2_with fail;go_ret;exact⟨p,rfl,⟨by rw[Hl.o];exact hq,H1.o,fun h=>H2.o (by rw[Hl.o]at h;exact h)⟩,rfl⟩
theorem XO(A:iX)(n c B:Nat)(l:l8)(w:l6)(hr:Rd w B 1 A n (l.map (Value.int .u64)))(hl:l.length=n)(hn:n<=200)(hri:Rises l)(x:Int)(hx:0<=x)(hx1:x<=4294967295)(j:Nat)(hj:First l x j):
  Calls prog 74 #[.slice A n c,.int .u32 x] w fun e w'=>e=.returned (O J j)/\w=w':=by
 refine(bP A n c B l w hr hl hn hri x hx hx1).mono ?_;rintro e w' ⟨k,rfl,hk,rfl⟩;obtain rfl:=hj.one hk;exact⟨rfl,rfl⟩
end
section
open Go.RowKit HB PickP TabP
theorem ZK(A:iX)(n c:Nat)(at_:Int)(hn:n<=1000000000)(w:l6)(A2:iX)(n2 c2 B:Nat)(l:l8)(hr:Rd w B 1 A2 n2 (l.map (Value.int .u64)))(hl:l.length=n2)(hn2:n2<=200)(hB:B<=w.heap.size)(ht:fd l=true)(hd:at_<0\/(n:Int)<=at_):
  Calls prog 51 #[.slice A2 n2 c2,Words.st A n c at_] w (fk (.tuple #[O J 0,Words.st A n c at_,O J 50]) w):=by
 have D:=ze hd;have T:=ze ht;have Hl:=ze hl;have HR:=ze ((hr.alloc hB (Words.box A n c at_)).alloc (by simp;omega) (Words.box none 0 0 0));clear ht hl hr;clear hd
 go_in
 go_wp2_with(go_at_call 72;refine(yN A2 n2 c2 B l _ HR.o Hl.o hn2).mono ?_;rintro e w' ⟨rfl,rfl⟩;simp only[T.o]);refine(vd _ _ _ _ hn _ D.o).mono ?_;rintro e w1 ⟨rfl,h0⟩;have k0:=zf h0 (p:=⟨w.heap.size,0,none⟩) (v:=.slice A n c) (by simp);have k1:=zf h0 (p:=⟨w.heap.size,1,none⟩) (v:=O J at_) (by simp);have k2:=zf h0 (p:=⟨w.heap.size+1,0,none⟩) (v:=.slice none 0 0) (by simp[go_sem]);have k3:=zf h0 (p:=⟨w.heap.size+1,1,none⟩) (v:=O J 0) (by simp[go_sem]);have f2:=zG h0 (p:=⟨w.heap.size+1,0,none⟩) (by simp) (by simp[go_sem]);have f3:=zG h0 (p:=⟨w.heap.size+1,1,none⟩) (by simp) (by simp[go_sem]);have z0:=ZO (dW (k:=w.heap.size) h0 (by simp;omega));have z1:=ZO (dW (k:=w.heap.size+1) h0 (by simp));have hB:=then_ (show fj w _ from by go_grown) h0 fi;clear h0;go_wp2_with fail;refine j9 (w:=w) (fun W=>W.cell? ⟨w.heap.size,0,none⟩=some (.slice A n c)/\W.cell? ⟨w.heap.size,1,none⟩=some (O J at_)/\W.cell? ⟨w.heap.size+1,0,none⟩=some (.slice none 0 0)/\W.cell? ⟨w.heap.size+1,1,none⟩=some (O J 0)/\
  W.frozen? ⟨w.heap.size+1,0,none⟩=false/\W.frozen? ⟨w.heap.size+1,1,none⟩=false) (by simp[go_sem, *]) (hB.alloc z0.2.1 _) (by simp[*]) ?_
 clear k0 k1 k2 k3 f2 f3 z0 z1 hB HR;rintro W ⟨k0,k1,k2,k3,f2,f3⟩ hB hz;have s2:=ff k2;have s3:=ZP ⟨w.heap.size+1,0,none⟩ (by simp) k3;go_region
 all_goals
  go_wp2_with fail;exact bodyPost_ret (v:=.tuple #[O J 0,Words.st A n c at_,O J 50]) (by simp[results,Tryz.results51,go_sem,s2,s3]) rfl ⟨rfl,by go_grown⟩
theorem ZL(b off n c k:Nat)(x:Int)(hn:n<=1000000000)(w:l6)(A2:iX)(n2 c2 B:Nat)(l:l8)(hr:Rd w B 1 A2 n2 (l.map (Value.int .u64)))(hl:l.length=n2)(hn2:n2<=200)(hB:B<=w.heap.size)(hk:k<n)(hc:w.cell? ⟨b,off+k,none⟩=some (.int .u32 x))
  (hx:0<=x)(hx1:x<=4294967295)(ht:fd l=true)(j:Nat)(hj:First l x j):
  Calls prog 51 #[.slice A2 n2 c2,Words.st (some ⟨b,off,none⟩) n c k] w (fk (.tuple #[O J j,Words.st (some ⟨b,off,none⟩) n c (k+1),O J 0]) w):=by
 have h4:=JG w _ hc;have Hc:=ze hc;have Hj:=ze hj;have h3:=ze ((qX l).1 ht).1;have T:=ze ht;have Hl:=ze hl;have HR:=ze ((hr.alloc hB (Words.box (some ⟨b,off,none⟩) n c k)).alloc (by simp;omega) (Words.box none 0 0 0));clear ht hl hr;clear hc hj
 go_in
 go_wp2_with(go_at_call 72;refine(yN A2 n2 c2 B l _ HR.o Hl.o hn2).mono ?_;rintro e w' ⟨rfl,rfl⟩;simp only[T.o]);refine(Zh b off n c k x hn _ hk (by simp[go_sem,Hc.o,ZO h4])).mono ?_;rintro e w1 ⟨rfl,h0⟩;have k2:=zf h0 (p:=⟨w.heap.size+1,0,none⟩) (v:=.slice none 0 0) (by simp[go_sem]);have k3:=zf h0 (p:=⟨w.heap.size+1,1,none⟩) (v:=O J 0) (by simp[go_sem]);have f2:=zG h0 (p:=⟨w.heap.size+1,0,none⟩) (by simp) (by simp[go_sem]);have f3:=zG h0 (p:=⟨w.heap.size+1,1,none⟩) (by simp) (by simp[go_sem]);have z0:=ZO (dW (k:=w.heap.size) h0 (by simp;omega));have z1:=ZO (dW (k:=w.heap.size+1) h0 (by simp));have h1:=ze (((HR.o.below (h0.mono (by simp;omega))).alloc (by omega) (Words.box (some ⟨b,off,none⟩) n c (k+1))));have h2:=then_ (show fj w _ from by go_grown) h0 fi;clear h0;go_wp2_with fail;refine j9 (w:=w) (fun W=>Rd W B 1 A2 n2 (l.map (Value.int .u64))/\W.cell? ⟨w1.heap.size,0,none⟩=some (.slice (some ⟨b,off,none⟩) n c)/\W.cell? ⟨w1.heap.size,1,none⟩=some (O J ((k:Int)+1))/\W.cell? ⟨w.heap.size+1,0,none⟩=some (.slice none 0 0)/\W.cell? ⟨w.heap.size+1,1,none⟩=some (O J 0)/\
  W.frozen? ⟨w.heap.size+1,0,none⟩=false/\W.frozen? ⟨w.heap.size+1,1,none⟩=false) (iG h1.o (by simp[go_sem, *])) (h2.alloc z0.2.1 _) (by simp[*]) ?_
 have h5:w1.heap.size≠w.heap.size+1:=by omega
 clear k2 k3 f2 f3 z0 z1 hB HR h2;generalize w1.heap.size=g at*;rintro W ⟨hR,k0,k1,k2,k3,f2,f3⟩ hB hz;have h6:w.heap.size+1≠g:=Ne.symm h5;have HR:=ze hR;clear hR h1;have s2:=ff k2;have s3:=ZP ⟨w.heap.size+1,0,none⟩ (by simp) k3
 go_region_held3 (fun w'=>w'.cell? ⟨g,0,none⟩=some (.slice (some ⟨b,off,none⟩) n c)/\w'.cell? ⟨g,1,none⟩=some (O J ((k:Int)+1))) (go_keep)
  (first|(go_at_call 74;refine(XO A2 n2 c2 B l _ HR.o.drew Hl.o hn2 h3.o x hx hx1 j Hj.o).mono ?_;rintro e w' ⟨rfl,rfl⟩))
 all_goals
  go_wp2_with fail;exact bodyPost_ret (v:=.tuple #[O J j,Words.st (some ⟨b,off,none⟩) n c (k+1),O J 0]) (by simp[results,Tryz.results51,go_sem,s2,s3]) rfl ⟨rfl,by go_grown⟩
end
end Go.Proofs.YtdeogmbfgkepeaaGreatDoor
